/- Which configurations are legal, what they are filled to: plain. No program is in sight. -/
import Derived.Test.YtiimoclbmaggjaaGreatDoorLHsAP
namespace Go.Md
open Go.RowKit Go.Lx Go.Proofs
set_option linter.unusedVariables false

def isA (m:MdlD) (c:List Int) (v:Int):Bool:=stands m v && atL c (rgA m v) == v
def ruleM (m:MdlD) (c:List Int) (r:Nat):Nat :=
 if ownA m r<0 then (if 0≤atL c r then 0 else 1)
 else if isA m c (ownA m r) then (if 0≤atL c r then 0 else 2) else (if 0≤atL c r then 3 else 0)
def lstM (m:MdlD) (r:Int) (k:Nat):Int:=((kidsM m r).find? (fun v=>kdA m v == k)).getD (-1)
def leastM (m:MdlD) (r:Int):Int:=if lstM m r 1<0 then lstM m r 2 else lstM m r 1
def fillM (m:MdlD) (c:List Int) (r:Nat):Bool:=(ruleM m c r == 1 || ruleM m c r == 2) && decide (0≤leastM m r)
def legM (m:MdlD) (c:List Int):Bool:=(List.range m.regs.length).all fun r=>ruleM m c r == 0
def goodM (m:MdlD) (c:List Int):Bool:=decide (0≤atL c 0) && (List.range m.vers.length).all fun v=>!isA m c v || ((chainM m v).all (isA m c) && (ownM m v).all fun r=>decide (0≤atL c r))
def fltF (m:MdlD) (c:List Int) (k:Nat):List (Nat × Nat):=((List.range k).filter fun r=>ruleM m c r != 0).map fun r=>(ruleM m c r,r)
theorem fltF_succ (m:MdlD) (c:List Int) (k:Nat):fltF m c (k+1)=fltF m c k ++ (if ruleM m c k=0 then [] else [(ruleM m c k,k)]):=by
 unfold fltF
 rw [List.range_succ,List.filter_append,List.map_append]
 congr 1
 by_cases h:ruleM m c k=0
 · simp [h]
 · simp [h]
theorem fltF_len (m:MdlD) (c:List Int) (k:Nat):(fltF m c k).length≤k:=by
 unfold fltF
 rw [List.length_map]
 have:=List.length_filter_le (fun r=>ruleM m c r != 0) (List.range k)
 rw [List.length_range] at this;exact this
theorem fltF_nil (m:MdlD) (c:List Int):(fltF m c m.regs.length).length=0↔legM m c=true:=by
 unfold fltF legM
 rw [List.length_map,List.length_eq_zero_iff,List.filter_eq_nil_iff,List.all_eq_true]
 refine forall_congr' fun r=>forall_congr' fun _=>?_
 simp
theorem rule_le (m:MdlD) (c:List Int) (r:Nat):ruleM m c r≤3:=by
 unfold ruleM
 split
 · split <;> omega
 · split <;> split <;> omega
theorem stands_at {m:MdlD} {k:Nat} (h:k<m.vers.length):stands m (k:Int)=(m.vers[k].kd == 1 || m.vers[k].kd == 2):=by
 unfold stands;rw [hasV_at h,Int.toNat_natCast,List.getElem?_eq_getElem h];simp
theorem rgA_at {m:MdlD} {k:Nat} (h:k<m.vers.length):rgA m (k:Int)=m.vers[k].rg:=by
 unfold rgA;rw [Int.toNat_natCast,List.getElem?_eq_getElem h]
theorem kdA_at {m:MdlD} {k:Nat} (h:k<m.vers.length):kdA m (k:Int)=m.vers[k].kd:=by
 unfold kdA;rw [Int.toNat_natCast,List.getElem?_eq_getElem h]
theorem stands_in {m:MdlD} (h0:riM m=(0,0,0)) {v:Int} (h:stands m v=true):∃ k:Nat,∃ hk:k<m.vers.length,v=k∧∃ r:Nat,∃ hr:r<m.regs.length,rgA m v=r∧homeM m v=r∧m.vers[k].rg=r∧m.vers[k].ofv<0∧arM m k=m.regs[r].own:=by
 have h1:=h
 unfold stands at h1
 rw [Bool.and_eq_true] at h1
 obtain ⟨k,rfl,hk⟩:=hasV_nat h1.1
 rw [stands_at hk] at h
 simp only [Bool.or_eq_true,beq_iff_eq] at h
 have hp:=plain_at h0 hk (by omega)
 rcases ver_at h0 hk with ⟨h2,r,hr,e1,e2,e3⟩ | ⟨h2,_⟩
 · refine ⟨k,hk,rfl,r,hr,by rw [rgA_at hk,e2],?_,e2,h2,e3⟩
   unfold homeM;rw [hasV_at hk];exact e1
 · omega
theorem atL_set {d:List Int} {q:Nat} (hq:q<d.length) (v:Int) (r:Int):atL (d.set q v) r=if r.toNat=q then v else atL d r:=by
 unfold atL
 rw [List.getD_eq_getElem?_getD,List.getElem?_set]
 by_cases h:q=r.toNat
 · rw [if_pos h,if_pos hq,if_pos h.symm];rfl
 · rw [if_neg h,if_neg (fun e=>h e.symm),← List.getD_eq_getElem?_getD]
inductive Fld (m:MdlD) (c:List Int):List Int→Prop
 | refl:Fld m c c
 | step {d:List Int} {r:Nat}:Fld m c d→r<m.regs.length→fillM m d r=true→Fld m c (d.set r (leastM m r))
def Nrm (m:MdlD) (d:List Int):Prop:=∀ r:Nat,r<m.regs.length→fillM m d r=false
theorem fill_at {m:MdlD} {d:List Int} {r:Nat} (h:fillM m d r=true):atL d r<0∧0≤leastM m r∧(ownA m r<0∨isA m d (ownA m r)=true):=by
 unfold fillM ruleM at h
 rw [Bool.and_eq_true,decide_eq_true_eq] at h
 refine ⟨?_,h.2,?_⟩
 · have h1:=h.1
   split at h1
   · split at h1
     · simp at h1
     · omega
   · split at h1
     · split at h1
       · simp at h1
       · omega
     · split at h1 <;> simp at h1
 · have h1:=h.1
   split at h1
   · left;assumption
   · split at h1
     · right;assumption
     · split at h1 <;> simp at h1
theorem fill_of {m:MdlD} {d:List Int} {r:Nat} (h1:atL d r<0) (h2:0≤leastM m r) (h3:ownA m r<0∨isA m d (ownA m r)=true):fillM m d r=true:=by
 unfold fillM ruleM
 rw [Bool.and_eq_true,decide_eq_true_eq]
 refine ⟨?_,h2⟩
 rw [if_neg (show ¬ (0≤atL d r) by omega),if_neg (show ¬ (0≤atL d r) by omega)]
 by_cases h:ownA m r<0
 · rw [if_pos h];rfl
 · rw [if_neg h,if_pos (h3.resolve_left h)];rfl
theorem Fld.len {m:MdlD} {c d:List Int} (h:Fld m c d):d.length=c.length:=by
 induction h with
 | refl=>rfl
 | step _ _ _ ih=>rw [List.length_set,ih]
theorem Fld.at {m:MdlD} {c d:List Int} (hl:c.length=m.regs.length) (h:Fld m c d):∀ r:Nat,atL d r=atL c r∨(atL c r<0∧atL d r=leastM m r∧0≤leastM m r):=by
 induction h with
 | refl=>exact fun _=>.inl rfl
 | @step d q hd hq hf ih =>
  intro r
  have hdl:q<d.length:=by rw [hd.len,hl];exact hq
  obtain ⟨f1,f2,_⟩:=fill_at hf
  rw [atL_set hdl]
  by_cases h:(r:Int).toNat=q
  · rw [if_pos h]
    obtain rfl:r=q:=by omega
    right
    rcases ih r with e | ⟨e,_⟩
    · exact ⟨by rw [← e];exact f1,rfl,f2⟩
    · exact ⟨e,rfl,f2⟩
  · rw [if_neg h];exact ih r
theorem Fld.le {m:MdlD} {c d n:List Int} (hl:c.length=m.regs.length) (hn:Fld m c n) (hN:Nrm m n) (h:Fld m c d):∀ r:Nat,0≤atL d r→atL n r=atL d r:=by
 induction h with
 | refl =>
  intro r hr
  rcases hn.at hl r with e | ⟨e,_⟩
  · exact e
  · omega
 | @step d q hd hq hf ih =>
  intro r hr
  have hdl:q<d.length:=by rw [hd.len,hl];exact hq
  obtain ⟨f1,f2,f3⟩:=fill_at hf
  rw [atL_set hdl] at hr ⊢
  by_cases h:(r:Int).toNat=q
  · rw [if_pos h]
    obtain rfl:r=q:=by omega
    rcases hn.at hl r with e | ⟨_,e,_⟩
    · exfalso
      have hc:atL c r<0:=by
        rcases hd.at hl r with e2 | ⟨e2,_⟩
        · rw [← e2];exact f1
        · exact e2
      have:=hN r hq
      rw [fill_of (by omega) f2 (f3.imp id fun ha=>by
        unfold isA at ha ⊢
        simp only [Bool.and_eq_true,beq_iff_eq] at ha ⊢
        refine ⟨ha.1,?_⟩
        have h5:=ih (rgA m (ownA m r)).toNat
        have e6:∀ x:List Int,atL x (((rgA m (ownA m r)).toNat:Nat):Int)=atL x (rgA m (ownA m r)):=fun x=>by unfold atL;rw [Int.toNat_natCast]
        rw [e6,e6,ha.2] at h5
        exact h5 (by
          have hs:=ha.1
          unfold stands at hs
          rw [Bool.and_eq_true] at hs
          obtain ⟨k,ek,_⟩:=hasV_nat hs.1
          omega))] at this
      cases this
    · exact e
  · rw [if_neg h] at hr ⊢;exact ih r hr
theorem fill_one {m:MdlD} {c d n:List Int} (hl:c.length=m.regs.length) (h1:Fld m c d) (h2:Fld m c n) (n1:Nrm m d) (n2:Nrm m n):d=n:=by
 have h:∀ r:Nat,atL d r=atL n r:=fun r=>by
   by_cases hd:0≤atL d r
   · exact (Fld.le hl h2 n2 h1 r hd).symm
   · by_cases hn:0≤atL n r
     · exact Fld.le hl h1 n1 h2 r hn
     · rcases h1.at hl r with e | ⟨_,e,e2⟩
       · rcases h2.at hl r with e3 | ⟨_,e3,e4⟩
         · rw [e,e3]
         · omega
       · omega
 apply List.ext_getElem (by rw [h1.len,h2.len])
 intro i hi hi'
 have:=h i
 unfold atL at this
 rw [Int.toNat_natCast,List.getD_eq_getElem?_getD,List.getD_eq_getElem?_getD,List.getElem?_eq_getElem hi,List.getElem?_eq_getElem hi'] at this
 exact this
theorem fill_new {m:MdlD} {d:List Int} {q r:Nat} (hq:q<d.length) {v:Int} (hv:0≤v) (h:fillM m (d.set q v) r=true):r≠q∧(fillM m d r=true∨ownA m r=v):=by
 obtain ⟨f1,f2,f3⟩:=fill_at h
 rw [atL_set hq] at f1
 by_cases e:(r:Int).toNat=q
 · rw [if_pos e] at f1;omega
 · rw [if_neg e] at f1
   refine ⟨by omega,?_⟩
   by_cases ho:ownA m r<0
   · exact .inl (fill_of f1 f2 (.inl ho))
   · have ha:=f3.resolve_left ho
     unfold isA at ha
     simp only [Bool.and_eq_true,beq_iff_eq] at ha
     rw [atL_set hq] at ha
     by_cases e2:(rgA m (ownA m r)).toNat=q
     · rw [if_pos e2] at ha;exact .inr ha.2.symm
     · rw [if_neg e2] at ha
       refine .inl (fill_of f1 f2 (.inr ?_))
       unfold isA
       simp only [Bool.and_eq_true,beq_iff_eq];exact ha
def empN (d:List Int):Nat:=(List.range d.length).countP fun r:Nat=>decide (atL d (r:Int)<0)
theorem emp_step {m:MdlD} {d:List Int} {q:Nat} (hq:q<d.length) (h:fillM m d q=true):empN (d.set q (leastM m q))<empN d:=by
 obtain ⟨f1,f2,_⟩:=fill_at h
 unfold empN
 rw [List.length_set]
 have key:∀ n:Nat,(List.range n).countP (fun r:Nat=>decide (atL (d.set q (leastM m q)) (r:Int)<0))+(if q<n then 1 else 0)=(List.range n).countP (fun r:Nat=>decide (atL d (r:Int)<0)):=by
   intro n
   induction n with
   | zero=>rfl
   | succ n ih =>
    rw [List.range_succ,List.countP_append,List.countP_append,← ih,List.countP_singleton,List.countP_singleton,atL_set hq]
    by_cases e:n=q
    · subst e
      have e1:decide ((if ((n:Nat):Int).toNat=n then leastM m n else atL d n)<0)=false:=by
        rw [if_pos (Int.toNat_natCast n)];simp only [decide_eq_false_iff_not];omega
      have e2:decide (atL d (n:Int)<0)=true:=by simp only [decide_eq_true_eq];exact f1
      rw [e1,e2,if_neg (Nat.lt_irrefl n),if_pos (Nat.lt_succ_self n)]
      simp
    · have e1:decide ((if ((n:Nat):Int).toNat=q then leastM m q else atL d n)<0)=decide (atL d (n:Int)<0):=by
        rw [if_neg (by rw [Int.toNat_natCast];exact e)]
      rw [e1]
      by_cases e2:q<n
      · rw [if_pos e2,if_pos (show q<n+1 by omega)];omega
      · rw [if_neg e2,if_neg (show ¬ q<n+1 by omega),Nat.add_zero,Nat.add_zero]
 have:=key d.length
 rw [if_pos hq] at this
 omega
theorem emp_le (d:List Int):empN d≤d.length:=by
 unfold empN
 have:=List.countP_le_length (p:=fun r:Nat=>decide (atL d (r:Int)<0)) (l:=List.range d.length)
 rw [List.length_range] at this;exact this
theorem lst_at {m:MdlD} (h0:riM m=(0,0,0)) {r:Int} {k:Nat} (h:0≤lstM m r k):∃ v:Nat,∃ hv:v<m.vers.length,lstM m r k=v∧m.vers[v].kd=k∧m.vers[v].rg=r:=by
 unfold lstM at h ⊢
 cases hf:(kidsM m r).find? (fun v=>kdA m v == k) with
 | none=>rw [hf] at h;exact absurd h (by decide)
 | some x =>
  have h1:=List.find?_some hf
  have h2:=List.mem_of_find?_eq_some hf
  obtain ⟨v,hv,rfl,hp⟩:=(sel_mem _ _ _).1 h2
  refine ⟨v,hv,rfl,?_,?_⟩
  · rw [kdA_at hv] at h1;simpa using h1
  · simp only [isKid,Bool.and_eq_true,beq_iff_eq] at hp;exact hp.2
theorem least_at {m:MdlD} (h0:riM m=(0,0,0)) {r:Int} (h:0≤leastM m r):∃ v:Nat,∃ hv:v<m.vers.length,leastM m r=v∧(m.vers[v].kd=1∨m.vers[v].kd=2)∧m.vers[v].rg=r:=by
 unfold leastM at h ⊢
 split at h
 · rename_i hn
   obtain ⟨v,hv,e,h1,h2⟩:=lst_at h0 h
   rw [if_pos hn];exact ⟨v,hv,e,.inr h1,h2⟩
 · rename_i hn
   obtain ⟨v,hv,e,h1,h2⟩:=lst_at h0 h
   rw [if_neg hn];exact ⟨v,hv,e,.inl h1,h2⟩
theorem Fld.fits {m:MdlD} (h0:riM m=(0,0,0)) {c d:List Int} (h:Fld m c d) (hc:fitRow m c=true):fitRow m d=true:=by
 induction h with
 | refl=>exact hc
 | @step d q hd hq hf ih =>
  obtain ⟨f1,f2,_⟩:=fill_at hf
  obtain ⟨v,hv,e,h1,h2⟩:=least_at h0 f2
  rw [fitRow_iff] at ih ⊢
  intro r hr
  rw [List.getElem_set]
  split
  · rename_i e2
    subst e2
    rw [e]
    unfold mayM
    rw [if_pos (hasV_at hv),Int.toNat_natCast,List.getElem?_eq_getElem hv]
    simp only [Bool.and_eq_true,Bool.or_eq_true,beq_iff_eq]
    exact ⟨h2,h1⟩
  · exact ih r (by rw [List.length_set] at hr;exact hr)
theorem fit_in {m:MdlD} {c:List Int} (hl:c.length=m.regs.length) (hf:fitRow m c=true) {r:Nat} (hr:r<m.regs.length) (h:0≤atL c r):∃ k:Nat,∃ hk:k<m.vers.length,atL c r=k∧m.vers[k].rg=r∧(m.vers[k].kd=1∨m.vers[k].kd=2)∧isA m c k=true:=by
 have hm:=fitRow_iff.1 hf r (by omega)
 have e:atL c r=c[r]'(by omega):=by unfold atL;rw [Int.toNat_natCast,List.getD_eq_getElem?_getD,List.getElem?_eq_getElem (by omega)];rfl
 rw [← e] at hm
 unfold mayM at hm
 split at hm
 · rename_i hv
   obtain ⟨k,ek,hk⟩:=hasV_nat hv
   rw [ek,Int.toNat_natCast,List.getElem?_eq_getElem hk] at hm
   simp only [Bool.and_eq_true,Bool.or_eq_true,beq_iff_eq] at hm
   refine ⟨k,hk,ek,hm.1,hm.2,?_⟩
   unfold isA
   rw [stands_at hk,rgA_at hk,hm.1,ek]
   simpa using hm.2
 · have:atL c r=-1:=by simpa using hm
   omega
theorem leg_at {m:MdlD} {c:List Int} (h:legM m c=true) {r:Nat} (hr:r<m.regs.length):ruleM m c r=0:=by
 unfold legM at h
 rw [List.all_eq_true] at h
 simpa using h r (List.mem_range.2 hr)
theorem legal_good {m:MdlD} (h0:riM m=(0,0,0)) {c:List Int} (hl:c.length=m.regs.length) (hf:fitRow m c=true):legM m c=goodM m c:=by
 rw [Bool.eq_iff_iff]
 have hg:goodM m c=true↔0≤atL c 0∧∀ v:Nat,v<m.vers.length→isA m c v=true→(∀ x ∈ chainM m v,isA m c x=true)∧∀ r ∈ ownM m v,0≤atL c r:=by
   unfold goodM
   simp only [Bool.and_eq_true,decide_eq_true_eq,List.all_eq_true,List.mem_range,Bool.or_eq_true,Bool.not_eq_true']
   refine and_congr Iff.rfl (forall_congr' fun v=>forall_congr' fun _=>?_)
   constructor
   · rintro (h | h) ha
     · rw [h] at ha;cases ha
     · exact h
   · intro h
     cases ha:isA m c v with
     | false=>exact .inl rfl
     | true=>exact .inr (h ha)
 rw [hg]
 constructor
 · intro h
   constructor
   · have hp:=regs_pos h0
     have:=leg_at h (r:=0) hp
     unfold ruleM at this
     rcases reg_right h0 hp with ⟨_,e⟩ | ⟨e,_⟩
     · rw [ownA_at hp,e,if_pos (by decide)] at this
       split at this
       · assumption
       · cases this
     · exact absurd rfl e
   · intro v hv ha
     constructor
     · have key:∀ (d v:Nat) (hv:v<m.vers.length),deM m v=d→isA m c v=true→∀ x ∈ upsM m (arM m v),isA m c x=true:=by
         intro d
         induction d with
         | zero =>
          intro v hv hd _ x hx
          rcases ar_at h0 hv with e | ⟨s,hs,e,_⟩
          · rw [e,ups_neg m (by omega)] at hx;cases hx
          · have:=dp_succ h0 hv hs e;omega
         | succ d ih =>
          intro v hv hd ha x hx
          rcases ar_at h0 hv with e | ⟨s,hs,e,hkd⟩
          · rw [e,ups_neg m (by omega)] at hx;cases hx
          · have hst:stands m v=true:=by unfold isA at ha;rw [Bool.and_eq_true] at ha;exact ha.1
            obtain ⟨k,hk,ek,r,hr,e1,_,e2,_,e3⟩:=stands_in h0 hst
            obtain rfl:v=k:=by omega
            have hru:=leg_at h hr
            have hat:atL c r=v:=by
              unfold isA at ha
              simp only [Bool.and_eq_true,beq_iff_eq] at ha
              rw [← e1];exact ha.2
            unfold ruleM at hru
            rw [ownA_at hr,← e3,e,if_neg (by omega)] at hru
            have has:isA m c (s:Int)=true:=by
              cases hb:isA m c (s:Int) with
              | true=>rfl
              | false=>rw [hb,hat,if_neg (by decide),if_pos (by omega)] at hru;cases hru
            rw [e,ups_cons h0 hs,List.mem_cons] at hx
            rcases hx with rfl | hx
            · exact has
            · exact ih s hs (by have:=dp_succ h0 hv hs e;omega) has x hx
       intro x hx
       unfold chainM at hx
       rw [hasV_at hv,if_pos rfl,List.mem_reverse] at hx
       exact key _ v hv rfl ha x hx
     · intro r hr
       obtain ⟨q,hq,rfl,ho⟩:=(sel_mem _ _ _).1 hr
       have hru:=leg_at h hq
       unfold isOwn at ho
       rw [beq_iff_eq] at ho
       unfold ruleM at hru
       rw [ownA_at hq,ho,if_neg (by omega),ha,if_pos rfl] at hru
       split at hru
       · assumption
       · cases hru
 · rintro ⟨h1,h2⟩
   unfold legM
   rw [List.all_eq_true]
   intro r hr
   have hr:=List.mem_range.1 hr
   rw [beq_iff_eq]
   unfold ruleM
   rcases reg_right h0 hr with ⟨e,eo⟩ | ⟨_,s,hs,eo,hkd⟩
   · subst e
     rw [ownA_at hr,eo,if_pos (by decide),if_pos (show 0≤atL c ((0:Nat):Int) from h1)]
   · rw [ownA_at hr,eo,if_neg (by omega)]
     cases hb:isA m c (s:Int) with
     | true =>
      rw [if_pos rfl,if_pos]
      exact (h2 s hs hb).2 r ((sel_mem _ _ _).2 ⟨r,hr,rfl,by simp [isOwn,eo]⟩)
     | false =>
      rw [if_neg (by decide),if_neg]
      intro hn
      obtain ⟨k,hk,ek,e1,e2,e3⟩:=fit_in hl hf hr hn
      have hst:stands m k=true:=by rw [stands_at hk];simpa using e2
      obtain ⟨k',hk',ek',r',hr',_,_,e4,_,e5⟩:=stands_in h0 hst
      obtain rfl:k=k':=by omega
      obtain rfl:r=r':=by omega
      have:=(h2 k hk e3).1 s (by
        unfold chainM
        rw [hasV_at hk,if_pos rfl,List.mem_reverse,e5,eo,ups_cons h0 hs]
        exact List.mem_cons_self)
      rw [this] at hb;cases hb
end Go.Md
