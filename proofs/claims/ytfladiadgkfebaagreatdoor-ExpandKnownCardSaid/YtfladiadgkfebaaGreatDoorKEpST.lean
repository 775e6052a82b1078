/- Submachines: what an expanded model's numbers are, and that its own parts stand first. Plain. -/
import Derived.Test.YtfladiadgkfebaaGreatDoorKEpPR
import Derived.Test.YtfladiadgkfebaaGreatDoorKMdIJ
namespace Go.Md
open Go.RowKit Go.Lx Go.Proofs
set_option maxRecDepth 100000
set_option maxHeartbeats 0
set_option linter.unusedVariables false
structure San (m:MdlD):Prop where
 own:∃ r t,m.regs=r :: t/\-1<=r.own/\r.own<m.vers.length/\∀ x ∈ t,0<=x.own/\x.own<m.vers.length
 ver:∀ x ∈ m.vers,(0<=x.ofv/\x.ofv<m.vers.length)\/(x.ofv=-1/\0<=x.rg/\x.rg<m.regs.length)
 trn:∀ x ∈ m.trns,0<=x.src/\x.src<m.vers.length/\0<=x.tgt/\x.tgt<m.vers.length
theorem San.of_right {m:MdlD} (h:riM m=(0,0,0)):San m:=by
 obtain ⟨_,_,_,h4,h5,_,h7⟩:=riM_zero.1 h
 have hu:=upOk h4 h5
 refine ⟨?_,fun x hx=>?_,fun x hx=>?_⟩
 . unfold f4 at h4
   by_cases h0:m.regs.length=0
   . rw [if_pos h0] at h4;simp only [Prod.mk.injEq] at h4;omega
   . rw [if_neg h0] at h4
     have hr:=(wrL_zero (part:=4) (by decide)).1 h4
     cases hm:m.regs with
     | nil=>rw [hm] at h0;simp at h0
     | cons r t =>
      refine ⟨r,t,rfl,?_,?_,fun x hx=>?_⟩
      . have:=(hr 0 (by omega)).1
        simp only [rReg,hm,Nat.zero_add,if_pos,List.getElem_cons_zero,Bool.and_eq_true,beq_iff_eq] at this
        omega
      . exact hu.own r (by rw [hm];exact List.mem_cons_self)
      . obtain ⟨k,hk,rfl⟩:=List.getElem_of_mem hx
        have:=(hr (k+1) (by rw [hm];simpa using hk)).1
        unfold rReg at this
        rw [if_neg (by omega)] at this
        simp only [hm,List.getElem_cons_succ,Bool.and_eq_true] at this
        exact stM_lt this.1.2
 . obtain ⟨k,hk,rfl⟩:=List.getElem_of_mem hx
   have:=((wrL_zero (part:=5) (by decide)).1 h5 k hk).1
   unfold rVer at this
   simp only [Bool.and_eq_true] at this
   have hl:=this.1.1.1.1.1.2
   unfold liesM at hl
   split at hl
   . rw [Bool.and_eq_true] at hl
     exact .inl (stM_lt hl.2)
   . simp only [Bool.and_eq_true,decide_eq_true_iff,beq_iff_eq] at hl
     exact .inr ⟨by omega,hl.1.2,hl.2⟩
 . obtain ⟨k,hk,rfl⟩:=List.getElem_of_mem hx
   have:=((wrL_zero (part:=6) (by decide)).1 h7 k hk).1
   unfold rWay at this
   simp only [Bool.and_eq_true,decide_eq_true_iff] at this
   omega
theorem mvR_at {s v:Nat}:∀ {l:List RegD} {k:Nat} (h:k<(mvR s v l).length),∃ hk:k<l.length,(mvR s v l)[k]={ l[k] with own:=if k=0 then (s:Int) else l[k].own+v }
 | [],k,h=>by simp [mvR] at h
 | x :: t,0,h=>⟨by simp,rfl⟩
 | x :: t,k+1,h=>by
   rw [mvR_len] at h
   exact ⟨h,by simp [mvR]⟩
theorem San.put {out sub:MdlD} {s:Nat} (h:San out) (hs:San sub) (hk:s<out.vers.length):San (put1 sub s out):=by
 obtain ⟨r,t,e,h1,h2,h3⟩:=h.own
 obtain ⟨r',t',e',h1',h2',h3'⟩:=hs.own
 have hl:(put1 sub s out).vers.length=out.vers.length+sub.vers.length:=by simp [put1]
 have hr:(put1 sub s out).regs.length=out.regs.length+sub.regs.length:=by simp [put1,mvR_len]
 refine ⟨⟨r,t ++ mvR s out.vers.length sub.regs,by simp [put1,e],h1,by rw [hl];omega,fun x hx=>?_⟩,fun x hx=>?_,fun x hx=>?_⟩
 . rw [hl]
   rcases List.mem_append.1 hx with hx | hx
   . have:=h3 x hx;omega
   . rw [e',mvR] at hx
     rcases List.mem_cons.1 hx with rfl | hx
     . dsimp only;omega
     . obtain ⟨y,hy,rfl⟩:=List.mem_map.1 hx
       have:=h3' y hy
       dsimp only;omega
 . rw [hl,hr]
   rcases List.mem_append.1 hx with hx | hx
   . obtain ⟨k,hk',rfl⟩:=List.getElem_of_mem hx
     rw [List.length_modify] at hk'
     have:=h.ver _ (List.getElem_mem hk')
     rw [List.getElem_modify]
     split <;> (try dsimp only) <;> omega
   . obtain ⟨y,hy,rfl⟩:=List.mem_map.1 hx
     have:=hs.ver y hy
     unfold mvV
     split <;> dsimp only <;> omega
 . rw [hl]
   rcases List.mem_append.1 hx with hx | hx
   . have:=h.trn x hx;omega
   . obtain ⟨y,hy,rfl⟩:=List.mem_map.1 hx
     have:=hs.trn y hy
     unfold mvT;dsimp only;omega
theorem San.setV {m:MdlD} (h:San m) (v:Nat) {f:VerD->VerD} (hf:∀ x,(f x).ofv=x.ofv/\(f x).rg=x.rg):San (setV m v f):=by
 have hl:(Md.setV m v f).vers.length=m.vers.length:=by simp [Md.setV]
 obtain ⟨r,t,e,h1,h2,h3⟩:=h.own
 refine ⟨⟨r,t,e,h1,by rw [hl];exact h2,fun x hx=>by rw [hl];exact h3 x hx⟩,fun x hx=>?_,fun x hx=>by rw [hl];exact h.trn x hx⟩
 rw [hl]
 obtain ⟨k,hk',rfl⟩:=List.getElem_of_mem hx
 have hk2:k<m.vers.length:=by rw [hl] at hk';exact hk'
 have e:(Md.setV m v f).vers[k]=if v=k then f m.vers[k] else m.vers[k]:=by show (m.vers.modify v f)[k]'(by simpa using hk2)=_;rw [List.getElem_modify]
 have:=h.ver _ (List.getElem_mem hk2)
 rw [e]
 split
 . rw [(hf _).1,(hf _).2];exact this
 . exact this
theorem San.way {m:MdlD} (h:San m) {a b:Int} (ha:0<=a/\a<m.vers.length) (hb:0<=b/\b<m.vers.length):San { m with trns:=m.trns ++ [way a b] }:=by
 refine ⟨h.own,h.ver,fun x hx=>?_⟩
 rcases List.mem_append.1 hx with hx | hx
 . exact h.trn x hx
 . rw [List.mem_singleton] at hx;subst hx;exact ⟨ha.1,ha.2,hb.1,hb.2⟩
structure Pre (m out:MdlD):Prop where
 nm:out.nm=m.nm
 vars:out.vars=m.vars
 evs:out.evs=m.evs
 regs:m.regs <+: out.regs
 trns:m.trns <+: out.trns
 vl:m.vers.length<=out.vers.length
 ver:∀ k (h:k<m.vers.length),{ out.vers[k]'(Nat.lt_of_lt_of_le h vl) with sb:=m.vers[k].sb }=m.vers[k]
theorem Pre.refl (m:MdlD):Pre m m:=⟨rfl,rfl,rfl,List.prefix_refl _,List.prefix_refl _,Nat.le_refl _,fun _ _=>rfl⟩
theorem Pre.verG {m out:MdlD} (h:Pre m out) {k:Nat} (hk:k<m.vers.length):(verG out k).nm=(verG m k).nm/\(verG out k).kd=(verG m k).kd:=by
 have e1:Md.verG out k=out.vers[k]'(Nat.lt_of_lt_of_le hk h.vl):=by unfold Md.verG;simp [Nat.lt_of_lt_of_le hk h.vl]
 have e2:Md.verG m k=m.vers[k]:=by unfold Md.verG;simp [hk]
 have:=h.ver k hk
 rw [e1,e2]
 constructor
 . rw [<- this]
 . rw [<- this]
theorem Pre.put {m out sub:MdlD} {s:Nat} (h:Pre m out):Pre m (put1 sub s out):=by
 have hl:m.vers.length<=(put1 sub s out).vers.length:=by have:=h.vl;simp [put1];omega
 refine ⟨h.nm,h.vars,h.evs,h.regs.trans (List.prefix_append _ _),h.trns.trans (List.prefix_append _ _),hl,fun k hk=>?_⟩
 have hk2:=Nat.lt_of_lt_of_le hk h.vl
 have e:(put1 sub s out).vers[k]'(Nat.lt_of_lt_of_le hk hl)=if s=k then { out.vers[k] with sb:=⟨#[]⟩ } else out.vers[k]:=by
   unfold put1;dsimp only
   rw [List.getElem_append_left (by simpa using hk2),List.getElem_modify]
 rw [e,<- h.ver k hk]
 split <;> rfl
theorem Pre.setV {m out:MdlD} (h:Pre m out) {v:Nat} (hv:m.vers.length<=v) (f:VerD->VerD):Pre m (setV out v f):=by
 have hl:m.vers.length<=(Md.setV out v f).vers.length:=by have:=h.vl;simp [Md.setV];omega
 refine ⟨h.nm,h.vars,h.evs,h.regs,h.trns,hl,fun k hk=>?_⟩
 have hk2:=Nat.lt_of_lt_of_le hk h.vl
 have e:(Md.setV out v f).vers[k]'(Nat.lt_of_lt_of_le hk hl)=out.vers[k]:=by
   show (out.vers.modify v f)[k]'(by simpa using hk2)=_
   rw [List.getElem_modify,if_neg (by omega)]
 rw [e];exact h.ver k hk
theorem Pre.way {m out:MdlD} (h:Pre m out) (a b:Int):Pre m { out with trns:=out.trns ++ [way a b] } :=
 ⟨h.nm,h.vars,h.evs,h.regs,h.trns.trans (List.prefix_append _ _),h.vl,h.ver⟩
theorem bndI_some {p:VerD} {m:MdlD} (h:(bnd p m).isSome=true):∃ n,n<m.vers.length/\bndI p m=(n:Int)/\bnd p m=some n:=by
 cases hb:bnd p m with
 | none=>rw [hb] at h;simp at h
 | some n=>exact ⟨n,(bnd_lt hb).1,by unfold bndI;rw [hb],rfl⟩
theorem bnd_congr {p q:VerD} (h1:p.nm=q.nm) (h2:p.kd=q.kd) (m:MdlD):bnd p m=bnd q m:=by
 have:∀ (l:List VerD) i,bndF p i l=bndF q i l:=by
   intro l
   induction l with
   | nil=>intro i;rfl
   | cons x t ih=>intro i;rw [bndF,bndF,ih];unfold bndB;rw [h1,h2]
 exact this _ _
theorem tie_step {m out own:MdlD} {b:Nat} {p:Nat} (hS:San out) (hP:Pre m out) (hp:p<m.vers.length) (hb:m.vers.length<=b) (hl:b+own.vers.length<=out.vers.length) (ht:(bnd (verG m p) own).isSome=true):San (tie1 own b out p)/\Pre m (tie1 own b out p)/\(tie1 own b out p).vers.length=out.vers.length:=by
 obtain ⟨n,hn,e,_⟩:=bndI_some ht
 have hg:=hP.verG hp
 have e2:bndI (verG out p) own=(n:Int):=by rw [<- e];unfold bndI;rw [bnd_congr hg.1 hg.2]
 have hpo:=Nat.lt_of_lt_of_le hp hP.vl
 unfold tie1
 dsimp only
 rw [e2]
 have h1:(0:Int)<=(b:Int)+n/\(b:Int)+n<out.vers.length:=by omega
 have h2:(0:Int)<=(p:Int)/\(p:Int)<out.vers.length:=by omega
 have hset:=hS.setV ((b:Int)+n).toNat (f:=fun y=>{ y with kd:=5 }) (fun x=>⟨rfl,rfl⟩)
 have hlen:(setV out ((b:Int)+n).toNat (fun y=>{ y with kd:=5 })).vers.length=out.vers.length:=by simp [setV]
 split
 . refine ⟨?_,?_,by simp [setV]⟩
   . exact San.way (m:=setV out ((b:Int)+n).toNat (fun y=>{ y with kd:=5 })) hset (by rw [hlen];exact h1) (by rw [hlen];exact h2)
   . exact Pre.way (Pre.setV hP (by omega) _) _ _
 . exact ⟨hS.way h2 h1,hP.way _ _,rfl⟩
theorem ties_step {m own:MdlD} {b:Nat} (hb:m.vers.length<=b):∀ (ps:List Int) (out:MdlD),San out->Pre m out->b+own.vers.length<=out.vers.length->(∀ p ∈ ps,∃ k:Nat,p=k/\k<m.vers.length/\(bnd (verG m k) own).isSome=true)->San (tiesM own b out ps)/\Pre m (tiesM own b out ps)/\(tiesM own b out ps).vers.length=out.vers.length
 | [],out,hS,hP,_,_=>⟨hS,hP,rfl⟩
 | p :: ps,out,hS,hP,hl,ht=>by
   obtain ⟨k,rfl,hk,hbn⟩:=ht p (by simp)
   obtain ⟨h1,h2,h3⟩:=tie_step hS hP hk hb hl hbn
   have:=ties_step hb ps (tie1 own b out k) h1 h2 (by rw [h3];exact hl) fun q hq=>ht q (by simp [hq])
   rw [h3] at this
   exact this
theorem pts_at {m:MdlD} {s p:Int} (h:p ∈ ptsM m s):∃ k:Nat,∃ hk:k<m.vers.length,p=k/\m.vers[k].ofv=s:=by
 obtain ⟨v,hv,rfl,e⟩:=(sel_mem _ _ _).1 h
 exact ⟨v,hv,rfl,by simpa using e⟩
theorem put_step {l:List MdlD} {m out sub own:MdlD} {s n:Nat} (hS:San out) (hP:Pre m out) (hsub:San sub) (hown:own.vers.length<=sub.vers.length) (hs:s<m.vers.length) (ht:∀ p ∈ ptsM m s,(bnd (verG m p) own).isSome=true):San (putM sub own m s out)/\Pre m (putM sub own m s out):=by
 have hso:=Nat.lt_of_lt_of_le hs hP.vl
 have:=ties_step (own:=own) hP.vl (ptsM m s) (put1 sub s out) (hS.put hsub hso) hP.put (by simp [put1];exact hown) fun p hp=>by
   obtain ⟨k,hk,rfl,_⟩:=pts_at hp
   exact ⟨k,rfl,hk,ht _ hp⟩
 exact ⟨this.1,this.2.1⟩
structure LibR (l:List MdlD):Prop where
 ri:∀ m ∈ l,riM m=(0,0,0)
 td:∀ m ∈ l,tiedM l m=true
theorem LibR.use {l:List MdlD} (h:LibR l) {m:MdlD} (hm:m ∈ l) {s:Nat} (hs:s<m.vers.length) (h0:0<m.vers[s].sb.size):∃ n,fnd l m.vers[s].sb=some n/\n<l.length/\∀ p ∈ ptsM m s,(bnd (verG m p) (l.getD n m)).isSome=true:=by
 have:=tiedF_iff.1 (h.td m hm) s hs
 unfold tiedV at this
 rw [Nat.zero_add] at this
 have hz:(m.vers[s].sb.size == 0)=false:=beq_eq_false_iff_ne.2 (by omega)
 rw [hz,Bool.false_or] at this
 cases hf:fnd l m.vers[s].sb with
 | none=>rw [hf] at this;cases this
 | some n =>
  rw [hf] at this
  exact ⟨n,rfl,(fnd_some hf).1,fun p hp=>List.all_eq_true.1 this p hp⟩
def expK (cut:Bool) (l:List MdlD) (n k:Nat):MdlD:=(List.range k).foldl (expS cut l (expF cut l l.length) (l.getD n D0)) (l.getD n D0)
theorem expK_succ (cut:Bool) (l:List MdlD) (n k:Nat):expK cut l n (k+1)=expS cut l (expF cut l l.length) (l.getD n D0) (expK cut l n k) k:=by
 unfold expK
 rw [List.range_succ,List.foldl_append];rfl
theorem expK_zero (cut:Bool) (l:List MdlD) (n:Nat):expK cut l n 0=l.getD n D0:=rfl
theorem expK_all {cut:Bool} {l:List MdlD} {n:Nat} (hno:∀ i,¬ Rch l i i) (hn:n<l.length):expK cut l n (l.getD n D0).vers.length=expF cut l l.length n:=by
 rw [<- exp_stable (dpt_all hno hn)];rfl
theorem getD_mem {l:List MdlD} {n:Nat} (h:n<l.length) (d:MdlD):l.getD n d ∈ l:=by
 rw [List.getD_eq_getElem?_getD,List.getElem?_eq_getElem h];exact List.getElem_mem h
theorem getD_any {l:List MdlD} {n:Nat} (h:n<l.length) (d d':MdlD):l.getD n d=l.getD n d':=by
 rw [List.getD_eq_getElem?_getD,List.getD_eq_getElem?_getD,List.getElem?_eq_getElem h];rfl
theorem expS_san {cut:Bool} {l:List MdlD} (hL:LibR l) {ex:Nat->MdlD} {a:Nat} (ha:a<l.length) (hex:∀ n,Use l a n->San (ex n)/\(l.getD n D0).vers.length<=(ex n).vers.length) {out:MdlD} (hS:San out) (hP:Pre (l.getD a D0) out) (s:Nat):San (expS cut l ex (l.getD a D0) out s)/\Pre (l.getD a D0) (expS cut l ex (l.getD a D0) out s):=by
 unfold expS
 cases hx:(l.getD a D0).vers[s]? with
 | none=>exact ⟨hS,hP⟩
 | some x =>
  obtain ⟨hs,e⟩:=List.getElem?_eq_some_iff.1 hx
  dsimp only
  split
  . exact ⟨hS,hP⟩
  . rename_i hc
    have hz:0<x.sb.size:=by
      rcases Nat.eq_zero_or_pos x.sb.size with h | h
      . exact absurd (by rw [h];simp) hc
      . exact h
    obtain ⟨n,hf,hn,ht⟩:=hL.use (getD_mem ha D0) hs (by rw [e];exact hz)
    rw [e] at hf
    rw [hf]
    dsimp only
    have hu:Use l a n:=⟨l.getD a D0,by rw [List.getD_eq_getElem?_getD,List.getElem?_eq_getElem ha];rfl,x,List.mem_of_getElem? hx,hz,hf⟩
    obtain ⟨h1,h2⟩:=hex n hu
    exact put_step (l:=l) (n:=n) hS hP h1 (by rw [getD_any hn _ D0];exact h2) hs ht
theorem exp_fold {cut:Bool} {l:List MdlD} (hL:LibR l) {ex:Nat->MdlD} {a:Nat} (ha:a<l.length) (hex:∀ n,Use l a n->San (ex n)/\(l.getD n D0).vers.length<=(ex n).vers.length):∀ (vs:List Nat) (out:MdlD),San out->Pre (l.getD a D0) out->San (vs.foldl (expS cut l ex (l.getD a D0)) out)/\Pre (l.getD a D0) (vs.foldl (expS cut l ex (l.getD a D0)) out)
 | [],out,hS,hP=>⟨hS,hP⟩
 | v :: vs,out,hS,hP=>by
   obtain ⟨h1,h2⟩:=expS_san (cut:=cut) hL ha hex hS hP v
   exact exp_fold hL ha hex vs _ h1 h2
theorem exp_san {cut:Bool} {l:List MdlD} (hL:LibR l):∀ {f a:Nat},Dpt l f a->a<l.length->San (expF cut l f a)/\Pre (l.getD a D0) (expF cut l f a)
 | 0,_,h,_=>h.elim
 | f+1,a,h,ha=>by
   rw [expF]
   refine exp_fold hL ha (fun n hu=>?_) _ _ (San.of_right (hL.ri _ (getD_mem ha D0))) (Pre.refl _)
   obtain ⟨h1,h2⟩:=exp_san (cut:=cut) hL (h n hu) hu.lt.2
   exact ⟨h1,h2.vl⟩
theorem expK_san {cut:Bool} {l:List MdlD} (hL:LibR l) (hno:∀ i,¬ Rch l i i) {n:Nat} (hn:n<l.length) (k:Nat):San (expK cut l n k)/\Pre (l.getD n D0) (expK cut l n k) :=
 exp_fold hL hn (fun b hu=>by
   obtain ⟨h1,h2⟩:=exp_san (cut:=cut) hL (dpt_all hno hu.lt.2) hu.lt.2
   exact ⟨h1,h2.vl⟩) _ _ (San.of_right (hL.ri _ (getD_mem hn D0))) (Pre.refl _)
theorem wrL_len {α:Type} {part most:Nat} (hp:part≠0) {r:Nat->α->Bool} {l:List α} (h:wrL part most r 0 l=(0,0,0)):l.length<=most:=by
 rcases Nat.lt_or_ge most l.length with h1 | h1
 . have:=((wrL_zero hp).1 h most h1).2
   omega
 . exact h1
theorem right_len {m:MdlD} (h:riM m=(0,0,0)):m.vars.length<=64/\m.evs.length<=64/\m.regs.length<=512/\m.vers.length<=512/\m.trns.length<=512:=by
 obtain ⟨_,h2,h3,h4,h5,_,h7⟩:=riM_zero.1 h
 refine ⟨wrL_len (by decide) h2,wrL_len (by decide) h3,?_,wrL_len (by decide) h5,wrL_len (by decide) h7⟩
 unfold f4 at h4
 by_cases h0:m.regs.length=0
 . omega
 . rw [if_neg h0] at h4;exact wrL_len (by decide) h4
theorem pts_len (m:MdlD) (s:Int):(ptsM m s).length<=m.vers.length:=sel_len _ _
theorem le_expS (l:List MdlD) (ex:Nat->MdlD) (m out:MdlD) (cut:Bool) (s:Nat):LeS (lens out) (lens (expS cut l ex m out s)):=by
 unfold expS
 cases m.vers[s]? with
 | none=>exact LeS.refl _
 | some x =>
  dsimp only
  split
  . exact LeS.refl _
  . cases fnd l x.sb with
    | none=>exact LeS.refl _
    | some n=>dsimp only;rw [lens_putM];exact le_addS _ _ _
theorem le_fold (l:List MdlD) (ex:Nat->MdlD) (m:MdlD) (cut:Bool):∀ (vs:List Nat) (out:MdlD),LeS (lens out) (lens (vs.foldl (expS cut l ex m) out))
 | [],out=>LeS.refl _
 | v :: vs,out=>(le_expS l ex m out cut v).trans (le_fold l ex m cut vs _)
theorem expK_le (cut:Bool) (l:List MdlD) (n:Nat) {k j:Nat} (h:k<=j):LeS (lens (expK cut l n k)) (lens (expK cut l n j)):=by
 obtain ⟨d,rfl⟩:=Nat.exists_eq_add_of_le h
 clear h
 induction d with
 | zero=>exact LeS.refl _
 | succ d ih=>rw [<- Nat.add_assoc,expK_succ];exact ih.trans (le_expS _ _ _ _ _ _)
theorem expK_put {cut:Bool} {l:List MdlD} {n k q:Nat} {m:MdlD} (hm:l.getD n D0=m) (hk:k<m.vers.length) (h0:0<m.vers[k].sb.size) (hq:fnd l m.vers[k].sb=some q) (hc:cut=false\/manyM (expK cut l n k)=false) :
   expK cut l n (k+1)=putM (expF cut l l.length q) (l.getD q m) m k (expK cut l n k):=by
 rw [expK_succ,hm]
 unfold expS
 rw [List.getElem?_eq_getElem hk]
 have hz:(m.vers[k].sb.size == 0)=false:=beq_eq_false_iff_ne.2 (by omega)
 dsimp only
 rw [hz,Bool.or_false,hq]
 rw [if_neg (by rcases hc with rfl | h <;> simp_all)]
theorem expK_skip {cut:Bool} {l:List MdlD} {n k:Nat} {m:MdlD} (hm:l.getD n D0=m) (hk:k<m.vers.length) (h0:m.vers[k].sb.size=0):expK cut l n (k+1)=expK cut l n k:=by
 rw [expK_succ,hm]
 unfold expS
 rw [List.getElem?_eq_getElem hk]
 simp [h0]
theorem expK_full {l:List MdlD} {n k:Nat} (h:manyM (expK true l n k)=true):∀ j,expK true l n (k+j)=expK true l n k
 | 0=>rfl
 | j+1=>by
   rw [<- Nat.add_assoc,expK_succ,expK_full h j]
   unfold expS
   cases (l.getD n D0).vers[k+j]? with
   | none=>rfl
   | some x=>simp [h]
abbrev S512:Siz:=(512,512,512)
theorem few_le {a:Siz} (h:manyS a=false):LeS a S512:=by
 unfold LeS
 have:=manyS_iff (a:=a)
 rw [h] at this
 simp only [Bool.false_eq_true,false_iff] at this
 refine ⟨?_,?_,?_⟩ <;> dsimp only <;> omega
theorem LeS.few {a b:Siz} (h:LeS a b) (k:manyS b=false):manyS a=false:=by
 cases ha:manyS a with
 | false=>rfl
 | true=>rw [h.many ha] at k;cases k
def Smal (l:List MdlD) (n:Nat):Prop:=manyS (lens (expF false l l.length n))=false
theorem Smal.of_size {l:List MdlD} {n:Nat} (h:manyS (sizF l l.length n)=false):Smal l n:=by
 unfold Smal
 cases hm:manyS (lens (expF false l l.length n)) with
 | false=>rfl
 | true=>rw [((rel_exp l l.length n).many hm).2] at h;cases h
theorem Smal.at_ {l:List MdlD} {n:Nat} (hno:∀ i,¬ Rch l i i) (hn:n<l.length) (h:Smal l n) {k:Nat} (hk:k<=(l.getD n D0).vers.length):LeS (lens (expK false l n k)) S512:=by
 refine few_le ((expK_le false l n hk).few ?_)
 rw [expK_all hno hn];exact h
theorem Smal.use {l:List MdlD} {n q:Nat} (hno:∀ i,¬ Rch l i i) (hn:n<l.length) (h:Smal l n) {k:Nat} (hk:k<(l.getD n D0).vers.length) (h0:0<(l.getD n D0).vers[k].sb.size) (hq:fnd l (l.getD n D0).vers[k].sb=some q):Smal l q:=by
 have hle:=expK_le false l n (Nat.succ_le_of_lt hk)
 rw [expK_put (cut:=false) rfl hk h0 hq (.inl rfl),lens_putM] at hle
 have h1:=(le_addS' (lens (expK false l n k)) (lens (expF false l l.length q)) (ptsM (l.getD n D0) k).length).trans hle
 rw [expK_all hno hn] at h1
 exact h1.few h
def bnS (f:Nat):Nat:=1600 * f+512
theorem cut_len {l:List MdlD} (hL:∀ m ∈ l,riM m=(0,0,0)):∀ (f a:Nat),LeS (lens (expF true l f a)) (bnS f,bnS f,bnS f)
 | 0,a=>by unfold bnS LeS lens;simp [expF]
 | f+1,a=>by
   have h0:(l.getD a D0).regs.length<=512/\(l.getD a D0).vers.length<=512/\(l.getD a D0).trns.length<=512:=by
     rcases Nat.lt_or_ge a l.length with h | h
     . exact (right_len (hL _ (getD_mem h D0))).2.2
     . rw [List.getD_eq_getElem?_getD,List.getElem?_eq_none h];simp
   have key:∀ (vs:List Nat) (out:MdlD),LeS (lens out) (bnS (f+1),bnS (f+1),bnS (f+1))->LeS (lens (vs.foldl (expS true l (expF true l f) (l.getD a D0)) out)) (bnS (f+1),bnS (f+1),bnS (f+1)):=by
     intro vs
     induction vs with
     | nil=>intro out h;exact h
     | cons v vs ih =>
      intro out h
      refine ih _ ?_
      unfold expS
      cases hx:(l.getD a D0).vers[v]? with
      | none=>exact h
      | some x =>
       dsimp only
       split
       . exact h
       . rename_i hc
         cases hf:fnd l x.sb with
         | none=>exact h
         | some n =>
          dsimp only
          rw [lens_putM]
          have hm:manyS (lens out)=false:=by
            rw [<- manyM_lens]
            cases hh:manyM out with
            | false=>rfl
            | true=>rw [hh] at hc;simp at hc
          obtain ⟨k1,k2,k3⟩:=few_le hm
          obtain ⟨g1,g2,g3⟩:=cut_len hL f n
          have hp:=pts_len (l.getD a D0) v
          unfold bnS at *
          unfold LeS addS
          dsimp only at *
          omega
   refine key _ _ ?_
   obtain ⟨h1,h2,h3⟩:=h0
   refine ⟨?_,?_,?_⟩
   . exact Nat.le_trans h1 (show 512<=bnS (f+1) by unfold bnS;omega)
   . exact Nat.le_trans h2 (show 512<=bnS (f+1) by unfold bnS;omega)
   . exact Nat.le_trans h3 (show 512<=bnS (f+1) by unfold bnS;omega)
structure Prt (m:MdlD):Prop where
 nm:m.nm.size<=140737488355328
 varn:∀ x ∈ m.vars,x.nm.size<=140737488355328
 evn:∀ s ∈ m.evs,s.size<=140737488355328
 regn:∀ x ∈ m.regs,x.nm.size<=140737488355328
 verx:∀ x ∈ m.vers,VerOk x/\x.df.length<=100000
 trnx:∀ x ∈ m.trns,TrnOk x/\x.tr.length<=100000
theorem Prt.of {m:MdlD} (h:MdlOk m) (s:Sml m):Prt m :=
 ⟨h.nm,h.varn,h.evn,h.regn,fun x hx=>⟨h.verx x hx,s.df x hx⟩,fun x hx=>⟨h.trnx x hx,s.tr x hx⟩⟩
theorem Prt.ok {m:MdlD} (h:Prt m) (hs:San m) (hv:m.vars.length<=100000) (he:m.evs.length<=100000) {B:Nat} (hB:B<=1000000) (hl:LeS (lens m) (B,B,B)):MdlOk m:=by
 obtain ⟨l1,l2,l3⟩:=hl
 unfold lens at l1 l2 l3
 dsimp only at l1 l2 l3
 obtain ⟨r,t,e,h1,h2,h3⟩:=hs.own
 exact ⟨h.nm,by omega,h.varn,by omega,h.evn,by omega,h.regn,fun x hx=>by
   rw [e] at hx
   rcases List.mem_cons.1 hx with rfl | hx
   . omega
   . have:=h3 x hx;omega,by omega,fun x hx=>(h.verx x hx).1,by omega,fun x hx=>(h.trnx x hx).1⟩
theorem Prt.sml {m:MdlD} (h:Prt m) (hv:m.vars.length<=100000) (he:m.evs.length<=100000) {B:Nat} (hB:B<=100000) (hl:LeS (lens m) (B,B,B)):Sml m:=by
 obtain ⟨l1,l2,l3⟩:=hl
 unfold lens at l1 l2 l3
 dsimp only at l1 l2 l3
 exact ⟨hv,he,by omega,by omega,by omega,fun x hx=>(h.verx x hx).2,fun x hx=>(h.trnx x hx).2⟩
theorem Prt.put {out sub:MdlD} {s:Nat} (h:Prt out) (hs:Prt sub) (h1:San out) (h2:San sub) {B:Nat} (hB:B<=1000000) (hl:LeS (lens (put1 sub s out)) (B,B,B)):Prt (put1 sub s out):=by
 rw [lens_put1] at hl
 obtain ⟨l1,l2,l3⟩:=hl
 unfold lens addS at l1 l2 l3
 dsimp only at l1 l2 l3
 refine ⟨h.nm,h.varn,h.evn,fun x hx=>?_,fun x hx=>?_,fun x hx=>?_⟩
 . rcases List.mem_append.1 hx with hx | hx
   . exact h.regn x hx
   . obtain ⟨k,hk,rfl⟩:=List.getElem_of_mem hx
     obtain ⟨hk2,e⟩:=mvR_at hk
     rw [e];exact hs.regn sub.regs[k] (List.getElem_mem hk2)
 . rcases List.mem_append.1 hx with hx | hx
   . obtain ⟨k,hk',rfl⟩:=List.getElem_of_mem hx
     rw [List.length_modify] at hk'
     have:=h.verx _ (List.getElem_mem hk')
     rw [List.getElem_modify]
     split
     . obtain ⟨⟨a1,a2,a3,a4,a5,a6,a7,a8,a9⟩,a0⟩:=this
       exact ⟨⟨a1,a2,a3,a4,a5,a6,Nat.zero_le _,a8,a9⟩,a0⟩
     . exact this
   . obtain ⟨y,hy,rfl⟩:=List.mem_map.1 hx
     obtain ⟨⟨a1,a2,a3,a4,a5,a6,a7,a8,a9⟩,a0⟩:=hs.verx y hy
     have:=h2.ver y hy
     unfold mvV
     split
     . exact ⟨⟨a1,a2,a3,a4,a5,a6,a7,a8,by dsimp only;omega⟩,a0⟩
     . exact ⟨⟨a1,a2,a3,a4,a5,a6,a7,by dsimp only;omega,a9⟩,a0⟩
 . rcases List.mem_append.1 hx with hx | hx
   . exact h.trnx x hx
   . obtain ⟨y,hy,rfl⟩:=List.mem_map.1 hx
     obtain ⟨⟨a1,a2,a3,a4,a5,a6,a7,a8,a9⟩,a0⟩:=hs.trnx y hy
     have:=h2.trn y hy
     exact ⟨⟨a1,a2,a3,a4,a5,a6,by show _/\_;unfold mvT;dsimp only;omega,by show _/\_;unfold mvT;dsimp only;omega,a9⟩,a0⟩
theorem Prt.tie {out own:MdlD} {b:Nat} {p n:Nat} (h:Prt out) (hp:p<=1000000) (hb:b<=1000000) (hn:n<=1000000) (e:bndI (verG out p) own=(n:Int)):Prt (tie1 own b out p):=by
 have hw:∀ (a b:Int),0<=a->a<=3000000->0<=b->b<=3000000->TrnOk (way a b)/\(way a b).tr.length<=100000:=fun a b h1 h2 h3 h4 =>
   ⟨⟨Nat.zero_le _,by show 1<256;decide,Nat.zero_le _,Nat.zero_le _,Nat.zero_le _,fun s hs=>by simp [way] at hs,by unfold way;dsimp only;omega,by unfold way;dsimp only;omega,by unfold way;dsimp only;omega⟩,Nat.zero_le _⟩
 unfold tie1
 dsimp only
 rw [e]
 split
 . refine ⟨h.nm,h.varn,h.evn,h.regn,fun x hx=>?_,fun x hx=>?_⟩
   . obtain ⟨k,hk',rfl⟩:=List.getElem_of_mem hx
     have hk2:k<out.vers.length:=by simpa [setV] using hk'
     have:=h.verx _ (List.getElem_mem hk2)
     have e9:(out.vers.modify ((b:Int)+n).toNat fun y=>{ y with kd:=5 })[k]'(by simpa using hk2)=if ((b:Int)+n).toNat=k then { out.vers[k] with kd:=5 } else out.vers[k]:=List.getElem_modify ..
     change VerOk ((out.vers.modify ((b:Int)+n).toNat fun y=>{ y with kd:=5 })[k]'(by simpa using hk2))/\((out.vers.modify ((b:Int)+n).toNat fun y=>{ y with kd:=5 })[k]'(by simpa using hk2)).df.length<=100000
     rw [e9]
     split
     . obtain ⟨⟨a1,a2,a3,a4,a5,a6,a7,a8,a9⟩,a0⟩:=this
       exact ⟨⟨a1,(show 5<256 by decide),a3,a4,a5,a6,a7,a8,a9⟩,a0⟩
     . exact this
   . rcases List.mem_append.1 hx with hx | hx
     . exact h.trnx x hx
     . rw [List.mem_singleton] at hx;subst hx;exact hw _ _ (by omega) (by omega) (by omega) (by omega)
 . refine ⟨h.nm,h.varn,h.evn,h.regn,h.verx,fun x hx=>?_⟩
   rcases List.mem_append.1 hx with hx | hx
   . exact h.trnx x hx
   . rw [List.mem_singleton] at hx;subst hx;exact hw _ _ (by omega) (by omega) (by omega) (by omega)
theorem Prt.ties {m own:MdlD} {b:Nat} (hb:m.vers.length<=b) (hb2:b<=1000000) (hm:m.vers.length<=1000000) (ho:own.vers.length<=1000000):∀ (ps:List Int) (out:MdlD),Prt out->San out->Pre m out->b+own.vers.length<=out.vers.length->(∀ p ∈ ps,∃ k:Nat,p=k/\k<m.vers.length/\(bnd (verG m k) own).isSome=true)->Prt (tiesM own b out ps)
 | [],out,h,_,_,_,_=>h
 | p :: ps,out,h,hS,hP,hl,ht=>by
   obtain ⟨k,rfl,hk,hbn⟩:=ht p (by simp)
   obtain ⟨h1,h2,h3⟩:=tie_step hS hP hk hb hl hbn
   obtain ⟨n,hn,e,_⟩:=bndI_some hbn
   have hg:=hP.verG hk
   have e2:bndI (verG out k) own=(n:Int):=by rw [<- e];unfold bndI;rw [bnd_congr hg.1 hg.2]
   exact Prt.ties hb hb2 hm ho ps (tie1 own b out k) (h.tie (by omega) hb2 (by omega) e2) h1 h2 (by rw [h3];exact hl) fun q hq=>ht q (by simp [hq])
structure LibP (l:List MdlD):Prop extends LibR l where
 prt:∀ m ∈ l,Prt m
 no:∀ i,¬ Rch l i i
theorem expF_prt {cut:Bool} {l:List MdlD} (hL:LibP l) {B:Nat} (hB:B<=1000000) (hB5:512<=B):∀ {f a:Nat},Dpt l f a->a<l.length->LeS (lens (expF cut l f a)) (B,B,B)->Prt (expF cut l f a)
 | 0,_,h,_,_=>h.elim
 | f+1,a,h,ha,hle=>by
   have key:∀ (vs:List Nat) (out:MdlD),Prt out->San out->Pre (l.getD a D0) out->LeS (lens (vs.foldl (expS cut l (expF cut l f) (l.getD a D0)) out)) (B,B,B)->Prt (vs.foldl (expS cut l (expF cut l f) (l.getD a D0)) out):=by
     intro vs
     induction vs with
     | nil=>intro out h _ _ _;exact h
     | cons s vs ih =>
      intro out hp hS hP hl
      have hex:∀ n,Use l a n->San (expF cut l f n)/\(l.getD n D0).vers.length<=(expF cut l f n).vers.length:=fun n hu=>by
        obtain ⟨h1,h2⟩:=exp_san (cut:=cut) hL.toLibR (h n hu) hu.lt.2
        exact ⟨h1,h2.vl⟩
      obtain ⟨g1,g2⟩:=expS_san (cut:=cut) hL.toLibR ha hex hS hP s
      refine ih _ ?_ g1 g2 hl
      have hl1:=(le_fold l (expF cut l f) (l.getD a D0) cut vs _).trans hl
      clear ih hl
      unfold expS at hl1 |-
      cases hx:(l.getD a D0).vers[s]? with
      | none=>exact hp
      | some x =>
       obtain ⟨hs,e⟩:=List.getElem?_eq_some_iff.1 hx
       rw [hx] at hl1
       dsimp only at hl1 |-
       split
       . exact hp
       . rename_i hc
         rw [if_neg hc] at hl1
         have hz:0<x.sb.size:=by
           rcases Nat.eq_zero_or_pos x.sb.size with h | h
           . exact absurd (by rw [h];simp) hc
           . exact h
         obtain ⟨n,hf,hn,ht⟩:=hL.use (getD_mem ha D0) hs (by rw [e];exact hz)
         rw [e] at hf
         rw [hf] at hl1 |-
         dsimp only at hl1 |-
         have hu:Use l a n:=⟨l.getD a D0,by rw [List.getD_eq_getElem?_getD,List.getElem?_eq_getElem ha];rfl,x,List.mem_of_getElem? hx,hz,hf⟩
         obtain ⟨k1,k2⟩:=hex n hu
         have hln:=hl1
         rw [lens_putM] at hln
         have hsub:=expF_prt hL hB hB5 (h n hu) hn ((le_addS' _ _ _).trans hln)
         have hlo:=(le_addS _ _ _).trans hln
         have hv:=hlo.2.1
         have hm:=(right_len (hL.ri _ (getD_mem ha D0))).2.2.2.1
         have hn5:=(right_len (hL.ri _ (getD_mem hn (l.getD a D0)))).2.2.2.1
         unfold lens at hv
         dsimp only at hv
         have hput:LeS (lens (put1 (expF cut l f n) s out)) (B,B,B):=by
           rw [lens_put1]
           have e0:LeS (addS (lens out) (lens (expF cut l f n)) 0) (addS (lens out) (lens (expF cut l f n)) (ptsM (l.getD a D0) s).length):=by unfold LeS addS;dsimp only;omega
           exact e0.trans hln
         refine Prt.ties hP.vl (by omega) (by omega) (by omega) _ _ (hp.put hsub hS k1 hB hput) (hS.put k1 (Nat.lt_of_lt_of_le hs hP.vl)) hP.put ?_ fun p hpp=>?_
         . rw [getD_any hn _ D0];simp [put1];exact k2
         . obtain ⟨k,hk,rfl,_⟩:=pts_at hpp
           exact ⟨k,rfl,hk,ht _ hpp⟩
   rw [expF] at hle |-
   exact key _ _ (hL.prt _ (getD_mem ha D0)) (San.of_right (hL.ri _ (getD_mem ha D0))) (Pre.refl _) hle
def NoSub (m:MdlD):Prop:=∀ x ∈ m.vers,x.sb.size=0
def NsK (m out:MdlD) (k:Nat):Prop:=∀ j y,out.vers[j]? = some y->y.sb.size=0\/∃ x,m.vers[j]? = some x/\k<=j/\y.sb=x.sb
theorem NsK.tie {m out:MdlD} {k:Nat} (h:NsK m out k) (own:MdlD) (b:Nat) (p:Int):NsK m (tie1 own b out p) k:=by
 unfold tie1
 dsimp only
 split
 . intro j y hy
   change (out.vers.modify _ _)[j]? = some y at hy
   rw [List.getElem?_modify] at hy
   cases ho:out.vers[j]? with
   | none=>rw [ho] at hy;simp at hy
   | some z =>
    rw [ho] at hy
    simp only [Option.map_eq_map,Option.map_some,Option.some.injEq] at hy
    subst hy
    have:=h j z ho
    split <;> exact this
 . exact h
theorem NsK.ties {m:MdlD} {k:Nat} (own:MdlD) (b:Nat):∀ (ps:List Int) (out:MdlD),NsK m out k->NsK m (tiesM own b out ps) k
 | [],out,h=>h
 | p :: ps,out,h=>NsK.ties own b ps _ (h.tie own b p)
theorem NsK.put {m out sub:MdlD} {k:Nat} (h:NsK m out k) (hs:NoSub sub):NsK m (put1 sub k out) (k+1):=by
 intro j y hy
 change (out.vers.modify k _ ++ sub.vers.map _)[j]? = some y at hy
 rcases Nat.lt_or_ge j out.vers.length with hj | hj
 . rw [List.getElem?_append_left (by simpa using hj),List.getElem?_modify,List.getElem?_eq_getElem hj] at hy
   simp only [Option.map_eq_map,Option.map_some,Option.some.injEq] at hy
   subst hy
   split
   . exact .inl rfl
   . rename_i hne
     rcases h j _ (List.getElem?_eq_getElem hj) with h1 | ⟨x,h1,h2,h3⟩
     . exact .inl h1
     . exact .inr ⟨x,h1,by omega,h3⟩
 . rw [List.getElem?_append_right (by simpa using hj)] at hy
   have:=List.mem_of_getElem? hy
   obtain ⟨z,hz,rfl⟩:=List.mem_map.1 this
   refine .inl ?_
   have hz0:=hs z hz
   unfold mvV
   split <;> exact hz0
theorem NsK.skip {m out:MdlD} {k:Nat} (h:NsK m out k) (hk:∀ x,m.vers[k]? = some x->x.sb.size=0):NsK m out (k+1):=by
 intro j y hy
 rcases h j y hy with h1 | ⟨x,h1,h2,h3⟩
 . exact .inl h1
 . rcases Nat.eq_or_lt_of_le h2 with e | e
   . subst e;exact .inl (by rw [h3];exact hk x h1)
   . exact .inr ⟨x,h1,by omega,h3⟩
theorem pt_kd {m:MdlD} (hr:riM m=(0,0,0)) {k:Nat} (hk:k<m.vers.length) (h:0<=m.vers[k].ofv):m.vers[k].kd=10\/m.vers[k].kd=11:=by
 obtain ⟨_,_,_,_,h5,_,_⟩:=riM_zero.1 hr
 have:=((wrL_zero (part:=5) (by decide)).1 h5 k hk).1
 unfold rVer at this
 simp only [Bool.and_eq_true] at this
 have hl:=this.1.1.1.1.1.2
 unfold liesM at hl
 split at hl
 . assumption
 . simp only [Bool.and_eq_true,decide_eq_true_iff,beq_iff_eq] at hl
   omega
def WayOk (m:MdlD) (t:TrnD):Prop :=
 (t.src<m.vers.length/\t.tgt<m.vers.length)\/((m.vers.length:Int)<=t.src/\(m.vers.length:Int)<=t.tgt)\/(t.src<m.vers.length/\(m.vers.length:Int)<=t.tgt/\(verG m t.src).kd=10)\/(t.tgt<m.vers.length/\(m.vers.length:Int)<=t.src/\(verG m t.tgt).kd=11)
theorem ways_tie {m out own:MdlD} {b p:Nat} (hr:riM m=(0,0,0)) (hP:Pre m out) (hp:p<m.vers.length) (h0:0<=m.vers[p].ofv) (hb:m.vers.length<=b) (ht:(bnd (verG m p) own).isSome=true) (hw:∀ t ∈ out.trns,WayOk m t):∀ t ∈ (tie1 own b out p).trns,WayOk m t:=by
 obtain ⟨n,hn,e,_⟩:=bndI_some ht
 have hg:=hP.verG hp
 have e2:bndI (verG out p) own=(n:Int):=by rw [<- e];unfold bndI;rw [bnd_congr hg.1 hg.2]
 have e3:verG m p=m.vers[p]:=by unfold Md.verG;simp [hp]
 have hk:=pt_kd hr hp h0
 unfold tie1
 dsimp only
 rw [e2,hg.2,e3]
 split
 . intro t htm
   rcases List.mem_append.1 htm with htm | htm
   . exact hw t htm
   . rw [List.mem_singleton] at htm
     subst htm
     exact .inr (.inr (.inr ⟨by show (p:Int)<_;omega,by show _<=(b:Int)+n;omega,by show (verG m p).kd=11;rw [e3];assumption⟩))
 . intro t htm
   rcases List.mem_append.1 htm with htm | htm
   . exact hw t htm
   . rw [List.mem_singleton] at htm
     subst htm
     exact .inr (.inr (.inl ⟨by show (p:Int)<_;omega,by show _<=(b:Int)+n;omega,by show (verG m p).kd=10;rw [e3];omega⟩))
theorem ways_ties {m own:MdlD} {b:Nat} (hr:riM m=(0,0,0)) (hb:m.vers.length<=b):∀ (ps:List Int) (out:MdlD),San out->Pre m out->b+own.vers.length<=out.vers.length->(∀ p ∈ ps,∃ k:Nat,∃ hk:k<m.vers.length,p=k/\0<=m.vers[k].ofv/\(bnd (verG m k) own).isSome=true)->(∀ t ∈ out.trns,WayOk m t)->∀ t ∈ (tiesM own b out ps).trns,WayOk m t
 | [],out,_,_,_,_,hw=>hw
 | p :: ps,out,hS,hP,hl,ht,hw=>by
   obtain ⟨k,hk,rfl,h0,hbn⟩:=ht p (by simp)
   obtain ⟨h1,h2,h3⟩:=tie_step hS hP hk hb hl hbn
   exact ways_ties hr hb ps (tie1 own b out k) h1 h2 (by rw [h3];exact hl) (fun q hq=>ht q (by simp [hq])) (ways_tie hr hP hk h0 hb hbn hw)
theorem exp_ns {l:List MdlD} (hL:LibR l):∀ {f a:Nat},Dpt l f a->a<l.length->NoSub (expF false l f a)/\∀ t ∈ (expF false l f a).trns,WayOk (l.getD a D0) t
 | 0,_,h,_=>h.elim
 | f+1,a,h,ha=>by
   have hri:=hL.ri _ (getD_mem ha D0)
   have key:∀ k,k<=(l.getD a D0).vers.length->San ((List.range k).foldl (expS false l (expF false l f) (l.getD a D0)) (l.getD a D0))/\Pre (l.getD a D0) ((List.range k).foldl (expS false l (expF false l f) (l.getD a D0)) (l.getD a D0))/\NsK (l.getD a D0) ((List.range k).foldl (expS false l (expF false l f) (l.getD a D0)) (l.getD a D0)) k/\∀ t ∈ ((List.range k).foldl (expS false l (expF false l f) (l.getD a D0)) (l.getD a D0)).trns,WayOk (l.getD a D0) t:=by
     intro k
     induction k with
     | zero =>
      intro _
      refine ⟨San.of_right hri,Pre.refl _,fun j y hy=>.inr ⟨y,hy,Nat.zero_le _,rfl⟩,fun t ht=>.inl ?_⟩
      have:=(San.of_right hri).trn t ht
      exact ⟨this.2.1,this.2.2.2⟩
     | succ k ih =>
      intro hk
      obtain ⟨hS,hP,hN,hW⟩:=ih (by omega)
      rw [List.range_succ,List.foldl_append,List.foldl_cons,List.foldl_nil]
      generalize (List.range k).foldl (expS false l (expF false l f) (l.getD a D0)) (l.getD a D0)=out at *
      have hex:∀ n,Use l a n->San (expF false l f n)/\(l.getD n D0).vers.length<=(expF false l f n).vers.length:=fun n hu=>by
        obtain ⟨h1,h2⟩:=exp_san (cut:=false) hL (h n hu) hu.lt.2
        exact ⟨h1,h2.vl⟩
      obtain ⟨g1,g2⟩:=expS_san (cut:=false) hL ha hex hS hP k
      refine ⟨g1,g2,?_⟩
      clear g1 g2
      have hk2:k<(l.getD a D0).vers.length:=by omega
      unfold expS
      rw [List.getElem?_eq_getElem hk2]
      dsimp only
      rw [Bool.false_and,Bool.false_or]
      by_cases hz:((l.getD a D0).vers[k].sb.size == 0)=true
      . rw [if_pos hz]
        refine ⟨hN.skip fun x hx=>?_,hW⟩
        rw [List.getElem?_eq_getElem hk2,Option.some.injEq] at hx
        subst hx;simpa using hz
      . rw [if_neg hz]
        have hz2:0<(l.getD a D0).vers[k].sb.size:=by
          rcases Nat.eq_zero_or_pos (l.getD a D0).vers[k].sb.size with h | h
          . exact absurd (by rw [h];simp) hz
          . exact h
        obtain ⟨n,hf,hn,ht⟩:=hL.use (getD_mem ha D0) hk2 hz2
        rw [hf]
        dsimp only
        have hu:Use l a n:=⟨l.getD a D0,by rw [List.getD_eq_getElem?_getD,List.getElem?_eq_getElem ha];rfl,_,List.getElem_mem hk2,hz2,hf⟩
        obtain ⟨k1,k2⟩:=hex n hu
        obtain ⟨i1,i2⟩:=exp_ns hL (h n hu) hn
        unfold putM
        refine ⟨(hN.put i1).ties _ _ _ _,?_⟩
        refine ways_ties hri hP.vl _ _ (hS.put k1 (Nat.lt_of_lt_of_le hk2 hP.vl)) hP.put ?_ ?_ ?_
        . rw [getD_any hn _ D0];simp [put1];exact k2
        . intro p hp
          obtain ⟨q,hq,rfl,ho⟩:=pts_at hp
          exact ⟨q,hq,rfl,by rw [ho];omega,ht _ hp⟩
        . intro t htm
          rcases List.mem_append.1 htm with htm | htm
          . exact hW t htm
          . obtain ⟨y,hy,rfl⟩:=List.mem_map.1 htm
            have h1:=k1.trn y hy
            have h2:=hP.vl
            exact .inr (.inl ⟨by unfold mvT;dsimp only;omega,by unfold mvT;dsimp only;omega⟩)
   rw [expF]
   obtain ⟨_,_,hN,hW⟩:=key _ (Nat.le_refl _)
   refine ⟨fun x hx=>?_,hW⟩
   obtain ⟨j,hj,rfl⟩:=List.getElem_of_mem hx
   rcases hN j _ (List.getElem?_eq_getElem hj) with h1 | ⟨y,h1,h2,_⟩
   . exact h1
   . have:=(List.getElem?_eq_some_iff.1 h1).1;omega
theorem use_ns {l:List MdlD} {a b:Nat} {m:MdlD} (hm:l[a]? = some m) (hn:NoSub m):¬ Use l a b:=by
 rintro ⟨m',h1,x,hx,h2,_⟩
 rw [hm,Option.some.injEq] at h1
 subst h1
 have:=hn x hx;omega
theorem rch_ns {l:List MdlD} {a b:Nat} {m:MdlD} (hm:l[a]? = some m) (hn:NoSub m):¬ Rch l a b:=by
 intro h
 cases h with
 | one u=>exact use_ns hm hn u
 | more u _=>exact use_ns hm hn u
theorem tied_ns {m:MdlD} (hn:NoSub m) (l:List MdlD):tiedM l m=true:=by
 refine tiedF_iff.2 fun k hk=>?_
 unfold tiedV
 rw [hn _ (List.getElem_mem hk)];rfl
theorem foldl_same {α β:Type} {f:α->β->α} {a:α} (h:∀ b,f a b=a):∀ (l:List β),l.foldl f a=a
 | []=>rfl
 | b :: t=>by rw [List.foldl_cons,h,foldl_same h t]
theorem expF_ns {m:MdlD} (hn:NoSub m) (cut:Bool) (l:List MdlD) {a:Nat} (ha:l.getD a D0=m) (f:Nat):expF cut l (f+1) a=m:=by
 rw [expF,ha]
 refine foldl_same (fun s=>?_) _
 unfold expS
 cases hx:m.vers[s]? with
 | none=>rfl
 | some x=>dsimp only;rw [hn x (List.mem_of_getElem? hx)];simp
theorem sizF_ns {m:MdlD} (hn:NoSub m) (l:List MdlD) {a:Nat} (ha:l.getD a D0=m) (f:Nat):sizF l (f+1) a=lens m:=by
 rw [sizF,ha]
 refine foldl_same (fun s=>?_) _
 unfold sizS
 cases hx:m.vers[s]? with
 | none=>rfl
 | some x=>dsimp only;rw [hn x (List.mem_of_getElem? hx)];simp
theorem lens_ri {m:MdlD} (h:riM m=(0,0,0)):manyS (lens m)=false:=by
 obtain ⟨_,_,h3,h4,h5⟩:=right_len h
 unfold manyS lens
 dsimp only
 simp only [Bool.or_eq_false_iff,decide_eq_false_iff_not]
 omega
theorem addV_all {m:MdlD} (h:riM m=(0,0,0)):∀ k,k<=m.vars.length->(m.vars.take k).foldl addV []=m.vars.take k
 | 0,_=>rfl
 | k+1,hk=>by
   obtain ⟨_,h2,_⟩:=riM_zero.1 h
   have:=((wrL_zero (part:=2) (by decide)).1 h2 k hk).1
   unfold rVar at this
   rw [Nat.zero_add] at this
   simp only [Bool.and_eq_true,Bool.not_eq_true'] at this
   rw [List.take_succ_eq_append_getElem hk,List.foldl_append,List.foldl_cons,List.foldl_nil,addV_all h k (by omega)]
   unfold addV
   rw [this.2];simp
theorem addE_all {m:MdlD} (h:riM m=(0,0,0)):∀ k,k<=m.evs.length->(m.evs.take k).foldl addE []=m.evs.take k
 | 0,_=>rfl
 | k+1,hk=>by
   obtain ⟨_,_,h2,_⟩:=riM_zero.1 h
   have:=((wrL_zero (part:=3) (by decide)).1 h2 k hk).1
   unfold rEv inL at this
   rw [Nat.zero_add] at this
   simp only [Bool.and_eq_true,Bool.not_eq_true'] at this
   rw [List.take_succ_eq_append_getElem hk,List.foldl_append,List.foldl_cons,List.foldl_nil,addE_all h k (by omega)]
   unfold addE
   rw [this.2];simp
theorem allV_one {m:MdlD} (h:riM m=(0,0,0)):m.vars.foldl addV []=m.vars:=by
 have:=addV_all h _ (Nat.le_refl _);rwa [List.take_length] at this
theorem allE_one {m:MdlD} (h:riM m=(0,0,0)):m.evs.foldl addE []=m.evs:=by
 have:=addE_all h _ (Nat.le_refl _);rwa [List.take_length] at this
theorem expM_one {m:MdlD} (h:riM m=(0,0,0)) (hn:NoSub m):expM [m]=(m,(0,0)):=by
 have hg:[m].getD 0 D0=m:=rfl
 have hm:madeM [m]=m:=by
   unfold madeM
   have e1:allV [m]=m.vars:=by
     show (List.range 1).foldl (varsS [m]) []=_
     rw [List.range_succ,List.range_zero,List.nil_append,List.foldl_cons,List.foldl_nil]
     unfold varsS isU
     rw [show ((0:Nat) == 0)=true from rfl,Bool.true_or,if_pos rfl,hg,allV_one h]
   have e2:allE [m]=m.evs:=by
     show (List.range 1).foldl (evsS [m]) []=_
     rw [List.range_succ,List.range_zero,List.nil_append,List.foldl_cons,List.foldl_nil]
     unfold evsS isU
     rw [show ((0:Nat) == 0)=true from rfl,Bool.true_or,if_pos rfl,hg,allE_one h]
   rw [e1,e2,show [m].length=0+1 from rfl,expF_ns hn false [m] hg 0]
 have h1:w1 [m] 0=0:=by
   unfold w1
   rw [hg,h];rfl
 have h2:w2 [m] 0=0:=by unfold w2;rw [hg,tied_ns hn];rfl
 have h3:w3 [m] 0=0:=by
   unfold w3
   rw [if_neg]
   rw [rB_iff];exact rch_ns (m:=m) rfl hn
 have hw:wrgM [m]=(0,0):=by
   unfold wrgM
   have k:∀ f:Nat->Nat,f 0=0->frsF f 1 0=(0,0):=fun f hf=>by simp [frsF,hf]
   rw [show [m].length=1 from rfl,k _ h1,k _ h2,k _ h3,show (1:Nat)=0+1 from rfl,sizF_ns hn [m] hg 0,lens_ri h]
   rfl
 unfold expM
 rw [if_neg (by simp),hw,if_neg (by simp),hm,h]
 rfl
structure RightL (x m:MdlD):Prop where
 ns:NoSub m
 vl:x.vers.length<=m.vers.length
 rl:x.regs.length<=m.regs.length
 tl:x.trns.length<=m.trns.length
 ver:∀ k (h:k<x.vers.length),{ m.vers[k]'(Nat.lt_of_lt_of_le h vl) with sb:=x.vers[k].sb }=x.vers[k]
 own:∀ t (h:t<m.trns.length),t<x.trns.length->m.trns[t].src<x.vers.length/\m.trns[t].tgt<x.vers.length
 way:∀ t (h:t<m.trns.length),WayOk x m.trns[t]
 san:San m
theorem made_law {l:List MdlD} (hL:LibP l) (h0:0<l.length):RightL (l.getD 0 D0) (madeM l):=by
 have hd:=dpt_all hL.no h0
 obtain ⟨h1,h2⟩:=exp_ns hL.toLibR hd h0
 obtain ⟨h3,h4⟩:=exp_san (cut:=false) hL.toLibR hd h0
 refine ⟨h1,h4.vl,h4.regs.length_le,h4.trns.length_le,h4.ver,fun t ht hx=>?_,fun t ht=>h2 _ (List.getElem_mem ht),⟨h3.own,h3.ver,h3.trn⟩⟩
 have hs:=San.of_right (hL.ri _ (getD_mem h0 D0))
 have e:(expF false l l.length 0).trns[t]'ht=(l.getD 0 D0).trns[t]:=(h4.trns.getElem hx).symm
 have:=hs.trn _ (List.getElem_mem hx)
 show ((expF false l l.length 0).trns[t]'ht).src<_/\((expF false l l.length 0).trns[t]'ht).tgt<_
 rw [e]
 exact ⟨this.2.1,this.2.2.2⟩
theorem wrgM_zero {l:List MdlD} (h:(wrgM l).2=0):(∀ i,i<l.length->w1 l i=0/\w2 l i=0/\w3 l i=0)/\manyS (sizF l l.length 0)=false:=by
 have k:∀ a b:Bad,(orB a b).2=0↔a.2=0/\b.2=0:=fun a b=>by
   unfold orB
   split
   . rename_i h;simp [h]
   . rename_i h;simp [h]
 unfold wrgM at h
 rw [k,k,k,frsF_zero,frsF_zero,frsF_zero] at h
 obtain ⟨h1,h2,h3,h4⟩:=h
 refine ⟨fun i hi=>⟨by simpa using h1 i hi,by simpa using h2 i hi,by simpa using h3 i hi⟩,?_⟩
 cases hm:manyS (sizF l l.length 0) with
 | false=>rfl
 | true=>rw [hm] at h4;simp at h4
theorem libP_of {l:List MdlD} (hp:∀ m ∈ l,Prt m) (h:(wrgM l).2=0):LibP l:=by
 obtain ⟨h1,_⟩:=wrgM_zero h
 refine ⟨⟨fun m hm=>?_,fun m hm=>?_⟩,hp,fun i hi=>?_⟩
 . obtain ⟨i,hi,rfl⟩:=List.getElem_of_mem hm
   have:=(h1 i hi).1
   unfold w1 at this
   rw [List.getD_eq_getElem?_getD,List.getElem?_eq_getElem hi] at this
   refine riM_ok ?_
   rcases Nat.eq_zero_or_pos (riM l[i]).2.2 with h | h
   . exact h
   . rw [if_pos (by show (riM l[i]).2.2≠0;omega)] at this
     exact this
 . obtain ⟨i,hi,rfl⟩:=List.getElem_of_mem hm
   have:=(h1 i hi).2.1
   unfold w2 at this
   rw [List.getD_eq_getElem?_getD,List.getElem?_eq_getElem hi] at this
   change (if tiedM l l[i]=true then 0 else 180)=0 at this
   split at this
   . assumption
   . omega
 . have:=(h1 i hi.lt.1).2.2
   unfold w3 at this
   rw [if_pos (rB_iff.2 hi)] at this
   omega
theorem expM_law {l:List MdlD} (hp:∀ m ∈ l,Prt m) (h:(expM l).2.2=0):0<l.length/\riM (expM l).1=(0,0,0)/\RightL (l.getD 0 D0) (expM l).1/\expM [(expM l).1]=((expM l).1,(0,0)):=by
 unfold expM at h |-
 by_cases h0:l.length=0
 . rw [if_pos h0] at h;simp at h
 rw [if_neg h0] at h |-
 by_cases h1:(wrgM l).2≠0
 . rw [if_pos h1] at h;exact absurd h h1
 rw [if_neg h1] at h |-
 by_cases h2:(riM (madeM l)).2.2≠0
 . rw [if_pos h2] at h;exact absurd h h2
 rw [if_neg h2]
 have hri:=riM_ok (Decidable.not_not.1 h2)
 have hl:=made_law (libP_of hp (Decidable.not_not.1 h1)) (by omega)
 exact ⟨by omega,hri,hl,expM_one hri hl.ns⟩
theorem expM_nil1 {l:List MdlD} (h:(expM l).2.2≠0):(expM l).1=D0:=by
 unfold expM at h |-
 split
 . rfl
 . rename_i h0
   rw [if_neg h0] at h
   split
   . rfl
   . rename_i h1
     rw [if_neg h1] at h
     split
     . rfl
     . rename_i h2
       rw [if_neg h2] at h
       exact absurd rfl h
def vIni:VerD:=⟨⟨#[]⟩,3,0,-1,⟨#[]⟩,⟨#[]⟩,[],⟨#[]⟩⟩
def vSub (s:ByteArray):VerD:=⟨⟨#[116]⟩,1,0,-1,⟨#[]⟩,⟨#[]⟩,[⟨#[103,111]⟩],s⟩
def vPnt (p:VerD):VerD:={ p with rg:=-1,ofv:=1 }
def vEnd:VerD:=⟨⟨#[100,111,110,101]⟩,2,0,-1,⟨#[]⟩,⟨#[]⟩,[],⟨#[]⟩⟩
def tGo:TrnD:=⟨⟨#[]⟩,0,1,[⟨#[103,111]⟩],0,⟨#[]⟩,⟨#[]⟩,1⟩
def machM (nm:ByteArray) (subs:List ByteArray) (pts:List VerD):MdlD :=
 ⟨nm,[⟨⟨#[110]⟩,2⟩,⟨⟨#[118]⟩ ++ nm,0⟩],[⟨#[103,111]⟩,⟨#[101]⟩ ++ nm],[⟨⟨#[116,111,112]⟩,-1⟩],[vIni] ++ subs.map vSub ++ pts.map vPnt ++ [vEnd],[tGo]⟩
def usC (l:List MdlD) (a:Nat):List Nat:=(l.getD a D0).vers.filterMap fun x=>if 0<x.sb.size then fnd l x.sb else none
theorem usC_iff {l:List MdlD} {a b:Nat}:b ∈ usC l a↔Use l a b:=by
 unfold usC Use
 rw [List.mem_filterMap]
 constructor
 . rintro ⟨x,hx,h⟩
   split at h
   . rename_i h0
     rcases Nat.lt_or_ge a l.length with ha | ha
     . rw [List.getD_eq_getElem?_getD,List.getElem?_eq_getElem ha] at hx
       exact ⟨_,List.getElem?_eq_getElem ha,x,hx,h0,h⟩
     . rw [List.getD_eq_getElem?_getD,List.getElem?_eq_none ha] at hx
       simp at hx
   . cases h
 . rintro ⟨m,hm,x,hx,h0,h⟩
   exact ⟨x,by rw [List.getD_eq_getElem?_getD,hm];exact hx,by rw [if_pos h0];exact h⟩
def clC (l:List MdlD) (a:Nat):Nat->List Nat
 | 0=>usC l a
 | k+1=>clC l a k ++ (clC l a k).flatMap (usC l)
theorem clC_is {l:List MdlD} {a:Nat}:∀ {k b:Nat},b ∈ clC l a k->Rch l a b
 | 0,b,h=>.one (usC_iff.1 h)
 | k+1,b,h=>by
   rcases List.mem_append.1 h with h | h
   . exact clC_is h
   . obtain ⟨c,hc,hb⟩:=List.mem_flatMap.1 h
     exact (clC_is hc).trans (.one (usC_iff.1 hb))
theorem clC_us {l:List MdlD} {a b:Nat} (h:Use l a b):∀ k,b ∈ clC l a k
 | 0=>usC_iff.2 h
 | k+1=>List.mem_append_left _ (clC_us h k)
def shutB (l:List MdlD) (a:Nat):Bool:=(clC l a l.length).all fun b=>(usC l b).all fun c=>(clC l a l.length).contains c
def rC (l:List MdlD) (a b:Nat):Bool:=(clC l a l.length).contains b
def shutAll (l:List MdlD):Bool:=(List.range l.length).all (shutB l)
theorem rB_eq {l:List MdlD} (h:shutAll l=true) (a b:Nat):rB l a b=rC l a b:=by
 rw [Bool.eq_iff_iff,rB_iff]
 unfold rC
 rw [List.contains_iff_mem]
 constructor
 . intro hr
   have ha:=hr.lt.1
   have hs:=List.all_eq_true.1 h a (List.mem_range.2 ha)
   unfold shutB at hs
   refine hr.closed (S:=fun b=>b ∈ clC l a l.length) (fun b u=>clC_us u _) fun b c hb u=>?_
   have:=List.all_eq_true.1 (List.all_eq_true.1 hs b hb) c (usC_iff.2 u)
   exact List.contains_iff_mem.1 this
 . exact clC_is
def w3C (l:List MdlD) (i:Nat):Nat:=if rC l i i then 180 else 0
def wrgC (l:List MdlD):Bad :=
 orB (frsF (w1 l) l.length 0) (orB (frsF (w2 l) l.length 0) (orB (frsF (w3C l) l.length 0) (if manyS (sizF l l.length 0) then (0,3) else (0,0))))
def isUC (l:List MdlD) (i:Nat):Bool:=i == 0 || rC l 0 i
def varsC (l:List MdlD) (acc:List VarD) (i:Nat):List VarD:=if isUC l i then (l.getD i D0).vars.foldl addV acc else acc
def evsC (l:List MdlD) (acc:List ByteArray) (i:Nat):List ByteArray:=if isUC l i then (l.getD i D0).evs.foldl addE acc else acc
def madeC (l:List MdlD):MdlD:={ expF false l l.length 0 with vars:=(List.range l.length).foldl (varsC l) [],evs:=(List.range l.length).foldl (evsC l) [] }
def expC (l:List MdlD):MdlD × Bad :=
 if l.length=0 then (D0,(0,2)) else if (wrgC l).2≠0 then (D0,wrgC l) else if (riM (madeC l)).2.2≠0 then (D0,(0,(riM (madeC l)).2.2)) else (madeC l,(0,0))
theorem expM_eq {l:List MdlD} (h:shutAll l=true):expM l=expC l:=by
 have e3:w3 l=w3C l:=funext fun i=>by unfold w3 w3C;rw [rB_eq h]
 have ew:wrgM l=wrgC l:=by unfold wrgM wrgC;rw [e3]
 have eu:isU l=isUC l:=funext fun i=>by unfold isU isUC;rw [rB_eq h]
 have ev:varsS l=varsC l:=funext fun acc=>funext fun i=>by unfold varsS varsC;rw [eu]
 have ee:evsS l=evsC l:=funext fun acc=>funext fun i=>by unfold evsS evsC;rw [eu]
 have em:madeM l=madeC l:=by unfold madeM madeC allV allE;rw [ev,ee]
 unfold expM expC
 rw [ew,em]
abbrev nmM:ByteArray:=⟨#[77]⟩
abbrev nmN:ByteArray:=⟨#[78]⟩
abbrev nm0:ByteArray:=⟨#[]⟩
def pEn:VerD:=⟨⟨#[116]⟩,10,0,0,⟨#[]⟩,⟨#[]⟩,[],⟨#[]⟩⟩
def pEx:VerD:=⟨⟨#[100,111,110,101]⟩,11,0,0,⟨#[]⟩,⟨#[]⟩,[],⟨#[]⟩⟩
def exA:List MdlD:=[machM nmM [nmN] [],machM nmN [nm0] []]
def exB:List MdlD:=[machM nmM [nmN] []]
def exC:List MdlD:=[machM nmM [nm0] [],machM nmN [nmN] []]
def exD:List MdlD:=[machM nmM [nmN] [pEn,pEx],machM nmN [nm0] []]
theorem exA_is:(expM exA).2=(0,0)/\(expM exA).1.regs.length=2/\((expM exA).1.regs[1]?).map (·.own)=some 1/\(expM exA).1.vers.length=6/\((expM exA).1.vers[4]?).map (·.rg)=some 1/\(expM exA).1.trns.length=2/\((expM exA).1.trns[1]?).map (fun t=>(t.src,t.tgt))=some (3,4)/\(expM exA).1.vars.length=3/\(expM exA).1.evs.length=3:=by
 rw [expM_eq (by kernel_rfl)]
 refine ⟨?_,?_,?_,?_,?_,?_,?_,?_,?_⟩ <;> kernel_rfl
theorem exB_is:(expM exB).2=(0,180):=by
 rw [expM_eq (by kernel_rfl)]
 kernel_rfl
theorem exC_is:(expM exC).2=(1,180):=by
 rw [expM_eq (by kernel_rfl)]
 kernel_rfl
theorem exD_is:(expM exD).2=(0,0)/\(expM exD).1.vers.length=8/\(expM exD).1.trns.length=4/\((expM exD).1.trns[2]?).map (fun t=>(t.src,t.tgt))=some (2,6)/\((expM exD).1.trns[3]?).map (fun t=>(t.src,t.tgt))=some (7,3)/\((expM exD).1.vers[7]?).map (·.kd)=some 5/\((expM exD).1.vers[4]?).map (·.kd)=some 2:=by
 rw [expM_eq (by kernel_rfl)]
 refine ⟨?_,?_,?_,?_,?_,?_,?_⟩ <;> kernel_rfl
theorem fndF_more {s:ByteArray} {x:MdlD} (h:x.nm≠s):∀ (l:List MdlD) (i:Nat),fndF s i (l ++ [x])=fndF s i l
 | [],i=>by
   have:eqS x.nm s=false:=by
     cases he:eqS x.nm s with
     | false=>rfl
     | true=>exact absurd (eqS_iff.1 he) h
   simp [fndF,this]
 | m :: t,i=>by rw [List.cons_append,fndF,fndF,fndF_more h t]
theorem frsF_more {f g:Nat->Nat}:∀ {k i:Nat},(∀ j,j<k->f (i+j)=g (i+j))->f (i+k)=0->frsF f (k+1) i=frsF g k i
 | 0,i,_,h0=>by simp only [Nat.add_zero] at h0;simp [frsF,h0]
 | k+1,i,h,h0=>by
   have e:=h 0 (by omega)
   rw [Nat.add_zero] at e
   have ih:=frsF_more (f:=f) (g:=g) (k:=k) (i:=i+1) (fun j hj=>by rw [show i+1+j=i+(j+1) by omega];exact h (j+1) (by omega)) (by rw [show i+1+k=i+(k+1) by omega];exact h0)
   rw [frsF,e,ih]
   conv=>rhs;rw [frsF]
structure More (l:List MdlD) (x:MdlD):Prop where
 ri:riM x=(0,0,0)
 ns:NoSub x
 nm:∀ m ∈ l,m.nm≠x.nm
 sb:∀ m ∈ l,∀ v ∈ m.vers,v.sb≠x.nm
theorem More.fnd {l:List MdlD} {x:MdlD} {s:ByteArray} (h:s≠x.nm):fnd (l ++ [x]) s=fnd l s:=fndF_more (fun e=>h e.symm) l 0
theorem getD_more {l:List MdlD} {x d:MdlD} {i:Nat} (h:i<l.length):(l ++ [x]).getD i d=l.getD i d:=by
 rw [List.getD_eq_getElem?_getD,List.getD_eq_getElem?_getD,List.getElem?_append_left h]
theorem getD_last (l:List MdlD) (x d:MdlD):(l ++ [x]).getD l.length d=x:=by
 rw [List.getD_eq_getElem?_getD,List.getElem?_append_right (Nat.le_refl _),Nat.sub_self];rfl
theorem More.use {l:List MdlD} {x:MdlD} (h:More l x) {a b:Nat} (ha:a<l.length):Use (l ++ [x]) a b↔Use l a b:=by
 unfold Use
 rw [List.getElem?_append_left ha]
 constructor
 . rintro ⟨m,hm,v,hv,h1,h2⟩
   rw [More.fnd (h.sb m (List.mem_of_getElem? hm) v hv)] at h2
   exact ⟨m,hm,v,hv,h1,h2⟩
 . rintro ⟨m,hm,v,hv,h1,h2⟩
   exact ⟨m,hm,v,hv,h1,by rw [More.fnd (h.sb m (List.mem_of_getElem? hm) v hv)];exact h2⟩
theorem Rch.to_more {l:List MdlD} {x:MdlD} (h:More l x) {a b:Nat} (hr:Rch l a b):Rch (l ++ [x]) a b:=by
 induction hr with
 | one u=>exact .one ((h.use u.lt.1).2 u)
 | more u _ ih=>exact .more ((h.use u.lt.1).2 u) ih
theorem Rch.of_more {l:List MdlD} {x:MdlD} (h:More l x) {a b:Nat} (hr:Rch (l ++ [x]) a b):a<l.length->Rch l a b:=by
 induction hr with
 | one u=>exact fun ha=>.one ((h.use ha).1 u)
 | more u _ ih =>
  intro ha
  have u':=(h.use ha).1 u
  exact .more u' (ih u'.lt.2)
theorem More.rb {l:List MdlD} {x:MdlD} (h:More l x) {a b:Nat} (ha:a<l.length):rB (l ++ [x]) a b=rB l a b:=by
 rw [Bool.eq_iff_iff,rB_iff,rB_iff]
 exact ⟨fun r=>r.of_more h ha,fun r=>r.to_more h⟩
theorem More.tied {l:List MdlD} {x:MdlD} (h:More l x) {m:MdlD} (hm:m ∈ l):tiedM (l ++ [x]) m=tiedM l m:=by
 rw [Bool.eq_iff_iff]
 unfold tiedM
 rw [tiedF_iff,tiedF_iff]
 have key:∀ k (hk:k<m.vers.length),tiedV (l ++ [x]) m (0+k) m.vers[k]=tiedV l m (0+k) m.vers[k]:=fun k hk=>by
   unfold tiedV
   rw [More.fnd (h.sb m hm _ (List.getElem_mem hk))]
   cases hf:Md.fnd l m.vers[k].sb with
   | none=>rfl
   | some n=>dsimp only;rw [getD_more (fnd_some hf).1]
 exact ⟨fun g k hk=>by rw [<- key k hk];exact g k hk,fun g k hk=>by rw [key k hk];exact g k hk⟩
theorem More.w1 {l:List MdlD} {x:MdlD} {i:Nat} (hi:i<l.length):Md.w1 (l ++ [x]) i=Md.w1 l i:=by
 unfold Md.w1 ahd
 rw [getD_more hi,List.take_append_of_le_length (by omega)]
theorem More.w1_last {l:List MdlD} {x:MdlD} (h:More l x):Md.w1 (l ++ [x]) l.length=0:=by
 unfold Md.w1 ahd
 rw [getD_last,h.ri,List.take_append_of_le_length (Nat.le_refl _),List.take_length,if_neg (by simp),if_neg]
 rw [Bool.not_eq_true,List.any_eq_false]
 intro m hm
 rw [Bool.not_eq_true]
 cases he:eqS m.nm x.nm with
 | false=>rfl
 | true=>exact absurd (eqS_iff.1 he) (h.nm m hm)
theorem More.w2 {l:List MdlD} {x:MdlD} (h:More l x) {i:Nat} (hi:i<l.length):Md.w2 (l ++ [x]) i=Md.w2 l i:=by
 unfold Md.w2
 rw [getD_more hi,h.tied (getD_mem hi D0)]
theorem More.w3 {l:List MdlD} {x:MdlD} (h:More l x) {i:Nat} (hi:i<l.length):Md.w3 (l ++ [x]) i=Md.w3 l i:=by
 unfold Md.w3
 rw [h.rb hi]
theorem More.w3_last {l:List MdlD} {x:MdlD} (h:More l x):Md.w3 (l ++ [x]) l.length=0:=by
 unfold Md.w3
 rw [if_neg]
 rw [rB_iff]
 exact rch_ns (m:=x) (by rw [List.getElem?_append_right (Nat.le_refl _),Nat.sub_self];rfl) h.ns
theorem More.siz {l:List MdlD} {x:MdlD} (h:More l x):∀ {f a:Nat},a<l.length->sizF (l ++ [x]) f a=sizF l f a
 | 0,_,_=>rfl
 | f+1,a,ha=>by
   rw [sizF,sizF,getD_more ha]
   refine foldl_congr' (fun s v=>?_) _ _
   unfold sizS
   cases hx:(l.getD a D0).vers[v]? with
   | none=>rfl
   | some y =>
    dsimp only
    rw [More.fnd (h.sb _ (getD_mem ha D0) _ (List.mem_of_getElem? hx))]
    cases hf:Md.fnd l y.sb with
    | none=>rfl
    | some n=>dsimp only;rw [More.siz h (fnd_some hf).1]
theorem More.exp {l:List MdlD} {x:MdlD} (h:More l x) {cut:Bool}:∀ {f a:Nat},a<l.length->expF cut (l ++ [x]) f a=expF cut l f a
 | 0,_,_=>rfl
 | f+1,a,ha=>by
   rw [expF,expF,getD_more ha]
   refine foldl_congr' (fun s v=>?_) _ _
   unfold expS
   cases hx:(l.getD a D0).vers[v]? with
   | none=>rfl
   | some y =>
    dsimp only
    rw [More.fnd (h.sb _ (getD_mem ha D0) _ (List.mem_of_getElem? hx))]
    cases hf:Md.fnd l y.sb with
    | none=>rfl
    | some n=>dsimp only;rw [More.exp h (fnd_some hf).1,getD_more (fnd_some hf).1]
theorem foldl_congr_on {α β:Type} {f g:α->β->α}:∀ (l:List β) (a:α),(∀ a,∀ b ∈ l,f a b=g a b)->l.foldl f a=l.foldl g a
 | [],_,_=>rfl
 | b :: l,a,h=>by rw [List.foldl_cons,List.foldl_cons,h a b (by simp),foldl_congr_on l _ fun a b hb=>h a b (by simp [hb])]
theorem More.isU {l:List MdlD} {x:MdlD} (h:More l x) (h0:0<l.length) (i:Nat):Md.isU (l ++ [x]) i=Md.isU l i:=by
 unfold Md.isU;rw [h.rb h0]
theorem More.last {l:List MdlD} {x:MdlD} (h:More l x) (h0:0<l.length):Md.isU (l ++ [x]) l.length=false:=by
 rw [h.isU h0]
 unfold Md.isU
 rw [Bool.or_eq_false_iff]
 refine ⟨beq_eq_false_iff_ne.2 (by omega),?_⟩
 cases hr:rB l 0 l.length with
 | false=>rfl
 | true=>have:=(rB_iff.1 hr).lt.2;omega
theorem More.vars {l:List MdlD} {x:MdlD} (h:More l x) (h0:0<l.length):allV (l ++ [x])=allV l:=by
 unfold allV
 rw [List.length_append,List.length_singleton,List.range_succ,List.foldl_append,List.foldl_cons,List.foldl_nil]
 have e:∀ acc,varsS (l ++ [x]) acc l.length=acc:=fun acc=>by unfold varsS;rw [h.last h0];rfl
 rw [e]
 refine foldl_congr_on _ _ fun acc i hi=>?_
 unfold varsS
 rw [h.isU h0,getD_more (List.mem_range.1 hi)]
theorem More.evs {l:List MdlD} {x:MdlD} (h:More l x) (h0:0<l.length):allE (l ++ [x])=allE l:=by
 unfold allE
 rw [List.length_append,List.length_singleton,List.range_succ,List.foldl_append,List.foldl_cons,List.foldl_nil]
 have e:∀ acc,evsS (l ++ [x]) acc l.length=acc:=fun acc=>by unfold evsS;rw [h.last h0];rfl
 rw [e]
 refine foldl_congr_on _ _ fun acc i hi=>?_
 unfold evsS
 rw [h.isU h0,getD_more (List.mem_range.1 hi)]
theorem expM_more {l:List MdlD} {x:MdlD} (h:More l x) (h0:0<l.length):expM (l ++ [x])=expM l:=by
 have e1:frsF (Md.w1 (l ++ [x])) (l.length+1) 0=frsF (Md.w1 l) l.length 0:=frsF_more (fun j hj=>by rw [Nat.zero_add];exact More.w1 hj) (by rw [Nat.zero_add];exact h.w1_last)
 have e2:frsF (Md.w2 (l ++ [x])) (l.length+1) 0=frsF (Md.w2 l) l.length 0:=frsF_more (fun j hj=>by rw [Nat.zero_add];exact h.w2 hj) (by rw [Nat.zero_add];unfold Md.w2;rw [getD_last,tied_ns h.ns];rfl)
 have e3:frsF (Md.w3 (l ++ [x])) (l.length+1) 0=frsF (Md.w3 l) l.length 0:=frsF_more (fun j hj=>by rw [Nat.zero_add];exact h.w3 hj) (by rw [Nat.zero_add];exact h.w3_last)
 have hno:(frsF (Md.w3 l) l.length 0).2=0->∀ i,¬ Rch l i i:=fun hz i hi=>by
   have:=frsF_zero.1 hz i hi.lt.1
   rw [Nat.zero_add] at this
   unfold Md.w3 at this
   rw [if_pos (rB_iff.2 hi)] at this
   omega
 have hW:wrgM (l ++ [x])=wrgM l:=by
   unfold wrgM
   rw [List.length_append,List.length_singleton,e1,e2,e3]
   by_cases hz:(frsF (Md.w3 l) l.length 0).2=0
   . have hd:=dpt_all (hno hz) h0
     rw [h.siz h0,siz_stable hd]
   . have k:∀ b,orB (frsF (Md.w3 l) l.length 0) b=frsF (Md.w3 l) l.length 0:=fun b=>by unfold orB;rw [if_neg hz]
     rw [k,k]
 have hM:(wrgM l).2=0->madeM (l ++ [x])=madeM l:=fun hz=>by
   have hn:∀ i,¬ Rch l i i:=fun i hi=>by
     have:=((wrgM_zero hz).1 i hi.lt.1).2.2
     unfold Md.w3 at this
     rw [if_pos (rB_iff.2 hi)] at this
     omega
   unfold madeM
   rw [h.vars h0,h.evs h0,h.exp h0,List.length_append,List.length_singleton,exp_stable (dpt_all hn h0)]
 have hn0:¬ (l ++ [x]).length=0:=by simp
 have hl0:¬ l.length=0:=by omega
 unfold expM
 rw [hW,if_neg hn0,if_neg hl0]
 by_cases hz:(wrgM l).2≠0
 . rw [if_pos hz,if_pos hz]
 . rw [if_neg hz,if_neg hz,hM (Decidable.not_not.1 hz)]
end Go.Md
