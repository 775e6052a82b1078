/- What the document says lies in what: plain. No program is in sight. -/
import Derived.Test.YtiimoclbmaggjaaGreatDoorHHiP
namespace Go.Md
open Go.RowKit Go.Lx Go.Proofs
set_option linter.unusedVariables false

theorem hasV_at {m:MdlD} {k:Nat} (h:k<m.vers.length):hasV m (k:Int)=true:=by simp [hasV];omega
theorem hasR_at {m:MdlD} {k:Nat} (h:k<m.regs.length):hasR m (k:Int)=true:=by simp [hasR];omega
theorem hasV_nat {m:MdlD} {v:Int} (h:hasV m v=true):∃ k:Nat,v=k∧k<m.vers.length:=by
 unfold hasV at h
 simp only [Bool.and_eq_true,decide_eq_true_eq] at h
 exact ⟨v.toNat,by omega,by omega⟩
theorem stM_at {m:MdlD} {k:Nat} (h:k<m.vers.length):Md.stM m (k:Int)=(m.vers[k].kd == 1):=by
 unfold Md.stM;rw [Int.toNat_natCast,List.getElem?_eq_getElem h];simp
theorem reg_right {m:MdlD} (h0:riM m=(0,0,0)) {r:Nat} (hr:r<m.regs.length):(r=0∧m.regs[r].own=-1)∨(r≠0∧∃ s,∃ hs:s<m.vers.length,m.regs[r].own=(s:Int)∧m.vers[s].kd=1):=by
 have h4:=(riM_zero.1 h0).2.2.2.1
 unfold f4 at h4
 split at h4
 · simp only [Prod.mk.injEq] at h4;omega
 · have:=((wrL_zero (by decide)).1 h4 r hr).1
   rw [Nat.zero_add] at this
   unfold rReg at this
   split at this
   · simp only [Bool.and_eq_true,beq_iff_eq] at this;exact .inl ⟨by assumption,this.2⟩
   · simp only [Bool.and_eq_true] at this
     obtain ⟨k,hk,e,hkd⟩:=st_in this.1.2
     exact .inr ⟨by assumption,k,hk,e,hkd⟩
theorem ver_at {m:MdlD} (h0:riM m=(0,0,0)) {k:Nat} (hk:k<m.vers.length) :
   (m.vers[k].ofv<0∧∃ r,∃ hr:r<m.regs.length,rgM m k=(r:Int)∧m.vers[k].rg=r∧arM m k=m.regs[r].own) ∨
   (0≤m.vers[k].ofv∧∃ s,∃ hs:s<m.vers.length,arM m k=(s:Int)∧m.vers[s].kd=1∧m.vers[s].ofv<0∧rgM m k=rgM m s∧m.vers[k].ofv=s):=by
 have e1:rgM m k=if 0≤m.vers[k].ofv then (match m.vers[m.vers[k].ofv.toNat]? with | some y=>y.rg | none=>-1) else m.vers[k].rg:=by
   unfold rgM;rw [Int.toNat_natCast,List.getElem?_eq_getElem hk];rfl
 have e2:arM m k=if 0≤m.vers[k].ofv then m.vers[k].ofv else match m.regs[m.vers[k].rg.toNat]? with | some r=>r.own | none=>-1:=by
   unfold arM;rw [Int.toNat_natCast,List.getElem?_eq_getElem hk];rfl
 rcases ver_right h0 hk with ⟨h1,s,hs,h2,h3,_⟩ | ⟨h1,r,hr,h2,_⟩
 · have hsp:=plain_at h0 hs ⟨by omega,by omega⟩
   refine .inr ⟨h1,s,hs,by rw [e2,if_pos h1,h2],h3,by omega,?_,h2⟩
   rw [e1,if_pos h1,h2,Int.toNat_natCast,List.getElem?_eq_getElem hs]
   unfold rgM
   rw [Int.toNat_natCast,List.getElem?_eq_getElem hs]
   show _=if 0≤m.vers[s].ofv then _ else _
   rw [if_neg (by omega)]
 · refine .inl ⟨h1,r,hr,by rw [e1,if_neg (by omega),h2],h2,?_⟩
   rw [e2,if_neg (by omega),h2,Int.toNat_natCast,List.getElem?_eq_getElem hr]
theorem rg_lt {m:MdlD} (h0:riM m=(0,0,0)) {k:Nat} (hk:k<m.vers.length):∃ r,r<m.regs.length∧rgM m k=(r:Int):=by
 rcases ver_at h0 hk with ⟨_,r,hr,e,_⟩ | ⟨_,s,hs,_,_,hof,e,_⟩
 · exact ⟨r,hr,e⟩
 · rcases ver_at h0 hs with ⟨_,r,hr,e2,_⟩ | ⟨h,_⟩
   · exact ⟨r,hr,by rw [e,e2]⟩
   · omega
theorem ar_at {m:MdlD} (h0:riM m=(0,0,0)) {k:Nat} (hk:k<m.vers.length):arM m k=-1∨∃ s,∃ hs:s<m.vers.length,arM m k=(s:Int)∧m.vers[s].kd=1:=by
 rcases ver_at h0 hk with ⟨_,r,hr,_,_,e⟩ | ⟨_,s,hs,e,h,_⟩
 · rcases reg_right h0 hr with ⟨_,e2⟩ | ⟨_,s,hs,e2,h⟩
   · exact .inl (by rw [e,e2])
   · exact .inr ⟨s,hs,by rw [e,e2],h⟩
 · exact .inr ⟨s,hs,e,h⟩
theorem ups_neg (m:MdlD) {v:Int} (h:v<0):upsM m v=[]:=by unfold upsM upL;rw [if_pos h]
theorem ups_cons {m:MdlD} (h0:riM m=(0,0,0)) {k:Nat} (hk:k<m.vers.length):upsM m k=(k:Int) :: upsM m (arM m k):=by
 have hl:=len_par h0 hk
 have hd:=deep_right h0 hk
 have e:upL m 65 (arM m k)=upL m 66 (arM m k):=by
   rw [upL_eq,upL_eq]
   have:dpM m 66 (arM m k)=dpM m 65 (arM m k):=dpM_more m 65 (arM m k) 66 (by unfold deM at hd;omega) (by omega)
   rw [this]
 unfold upsM
 show (if (k:Int)<0 then [] else (k:Int) :: upL m 65 (arM m k))=_
 rw [if_neg (by omega),e]
theorem up_state {m:MdlD} (h0:riM m=(0,0,0)) {k:Nat} (hk:k<m.vers.length) {x:Int} (hx:x ∈ upsM m (arM m k)):∃ s,∃ hs:s<m.vers.length,x=(s:Int)∧m.vers[s].kd=1∧(s:Int) ∈ upsM m k∧deM m s<deM m k:=by
 have key:∀ (d k:Nat) (hk:k<m.vers.length),deM m k=d→x ∈ upsM m (arM m k)→∃ s,∃ hs:s<m.vers.length,x=(s:Int)∧m.vers[s].kd=1:=by
   intro d
   induction d with
   | zero =>
    intro k hk hd hx
    rcases ar_at h0 hk with e | ⟨s,hs,e,_⟩
    · rw [e,ups_neg m (by omega)] at hx;cases hx
    · have:=dp_succ h0 hk hs e;omega
   | succ d ih =>
    intro k hk hd hx
    rcases ar_at h0 hk with e | ⟨s,hs,e,hkd⟩
    · rw [e,ups_neg m (by omega)] at hx;cases hx
    · rw [e,ups_cons h0 hs,List.mem_cons] at hx
      rcases hx with rfl | hx
      · exact ⟨s,hs,rfl,hkd⟩
      · exact ih s hs (by have:=dp_succ h0 hk hs e;omega) hx
 obtain ⟨s,hs,e,hkd⟩:=key _ k hk rfl hx
 subst e
 have hin:(s:Int) ∈ upsM m k:=by rw [ups_cons h0 hk];exact List.mem_cons_of_mem _ hx
 refine ⟨s,hs,rfl,hkd,hin,?_⟩
 rcases ar_at h0 hk with e | ⟨t,ht,e,_⟩
 · rw [e,ups_neg m (by omega)] at hx;cases hx
 · rw [e] at hx
   have:=(ups_at h0 ht hx).2.1
   have:=dp_succ h0 hk ht e
   omega
theorem up_of {m:MdlD} (h0:riM m=(0,0,0)) {k s:Nat} (hk:k<m.vers.length) (h:(s:Int) ∈ upsM m k) (hd:deM m s<deM m k):(s:Int) ∈ upsM m (arM m k):=by
 rw [ups_cons h0 hk,List.mem_cons] at h
 rcases h with h | h
 · obtain rfl:s=k:=by omega
   omega
 · exact h
theorem up_one {m:MdlD} (h0:riM m=(0,0,0)) {k s t:Nat} (hk:k<m.vers.length) (h1:(s:Int) ∈ upsM m k) (h2:(t:Int) ∈ upsM m k) (hd:deM m s=deM m t):s=t:=by
 have a:=(ups_at h0 hk h1).2.2
 have b:=(ups_at h0 hk h2).2.2
 rw [hd,b] at a
 omega
theorem up_nat {m:MdlD} (h0:riM m=(0,0,0)) {k:Nat} (hk:k<m.vers.length) {x:Int} (hx:x ∈ upsM m k):∃ s,s<m.vers.length∧x=(s:Int):=by
 rw [ups_cons h0 hk,List.mem_cons] at hx
 rcases hx with rfl | hx
 · exact ⟨k,hk,rfl⟩
 · obtain ⟨s,hs,e,_⟩:=up_state h0 hk hx;exact ⟨s,hs,e⟩
theorem up_trans {m:MdlD} (h0:riM m=(0,0,0)) {k s t:Nat} (hk:k<m.vers.length) (h1:(s:Int) ∈ upsM m k) (h2:(t:Int) ∈ upsM m s):(t:Int) ∈ upsM m k:=by
 obtain ⟨hs,d1,u1⟩:=ups_at h0 hk h1
 obtain ⟨ht,d2,u2⟩:=ups_at h0 hs h2
 have key:∀ j,upN m j s=upN m (j+(deM m k - deM m s)) k:=by
   intro j
   induction j with
   | zero=>rw [Nat.zero_add,u1];rfl
   | succ j ih=>rw [upN_succ,ih,show j+1+(deM m k - deM m s)=(j+(deM m k - deM m s))+1 by omega,upN_succ]
 rw [key] at u2
 rw [upsM_eq,List.mem_map]
 refine ⟨_,?_,u2⟩
 rw [List.mem_range,(len_self h0 hk).1];omega
theorem in_iff {m:MdlD} {v r:Int}:inM m v r=true↔hasV m v=true∧∃ p ∈ upsM m v,rgM m p=r:=by
 unfold inM
 rw [Bool.and_eq_true,List.find?_isSome]
 simp only [beq_iff_eq]
theorem under_iff {m:MdlD} {v s:Int}:underM m v s=true↔hasV m v=true∧hasV m s=true∧Md.stM m s=true∧s ∈ upsM m (arM m v):=by
 unfold underM
 simp only [Bool.and_eq_true,List.find?_isSome,beq_iff_eq,and_assoc]
 constructor
 · rintro ⟨h1,h2,h3,x,hx,rfl⟩;exact ⟨h1,h2,h3,hx⟩
 · rintro ⟨h1,h2,h3,hx⟩;exact ⟨h1,h2,h3,s,hx,rfl⟩
theorem under_at {m:MdlD} (h0:riM m=(0,0,0)) {k s:Nat} (hk:k<m.vers.length):underM m k s=true↔(s:Int) ∈ upsM m k∧deM m s<deM m k:=by
 rw [under_iff]
 constructor
 · rintro ⟨_,_,_,h⟩
   obtain ⟨t,ht,e,_,h1,h2⟩:=up_state h0 hk h
   obtain rfl:s=t:=by omega
   exact ⟨h1,h2⟩
 · rintro ⟨h1,h2⟩
   have h:=up_of h0 hk h1 h2
   obtain ⟨t,ht,e,hkd,_⟩:=up_state h0 hk h
   obtain rfl:s=t:=by omega
   exact ⟨hasV_at hk,hasV_at ht,by rw [stM_at ht,hkd];rfl,h⟩
theorem in_has {m:MdlD} (h0:riM m=(0,0,0)) {v r:Int} (h:inM m v r=true):hasR m r=true:=by
 obtain ⟨hv,p,hp,e⟩:=in_iff.1 h
 obtain ⟨k,rfl,hk⟩:=hasV_nat hv
 obtain ⟨s,hs,rfl⟩:=up_nat h0 hk hp
 obtain ⟨q,hq,e2⟩:=rg_lt h0 hs
 rw [← e,e2];exact hasR_at hq
end Go.Md
