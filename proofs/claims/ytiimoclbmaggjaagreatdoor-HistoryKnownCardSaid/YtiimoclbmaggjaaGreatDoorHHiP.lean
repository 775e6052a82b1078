/- Where a history leads: plain. No program is in sight. -/
import Derived.Test.YtiimoclbmaggjaaGreatDoorHIxGI
namespace Go.Md
open Go.RowKit Go.Lx Go.Proofs
set_option linter.unusedVariables false

def atL (last:List Int) (r:Int):Int:=last.getD r.toNat (-1)
def remM (m:MdlD) (last:List Int) (r:Int):Bool:=Md.stM m (atL last r)
def mayM (m:MdlD) (v r:Int):Bool:=if hasV m v then (match m.vers[v.toNat]? with | some x=>x.rg == r && (x.kd == 1 || x.kd == 2) | none=>false) else v == -1
def fitRow (m:MdlD) (last:List Int):Bool:=(List.range last.length).all fun r=>mayM m (last.getD r (-1)) r
def fitsM (m:MdlD) (last:List Int):Bool:=(riM m).2.2 == 0 && last.length == m.regs.length && fitRow m last
def stands (m:MdlD) (v:Int):Bool:=hasV m v && (match m.vers[v.toNat]? with | some x=>x.kd == 1 || x.kd == 2 | none=>false)
def rgA (m:MdlD) (v:Int):Int:=match m.vers[v.toNat]? with | some x=>x.rg | none=>-1
def kdA (m:MdlD) (v:Int):Nat:=match m.vers[v.toNat]? with | some x=>x.kd | none=>0
def note1 (m:MdlD) (last:List Int) (v:Int):List Int:=if stands m v then last.set (rgA m v).toNat v else last
def noteM (m:MdlD) (last left:List Int):List Int:=if fitsM m last then left.foldl (note1 m) last else []
def keepsF (m:MdlD) (last:List Int):Nat→Int→List Int
 | 0,_=>[]
 | f+1,s=>if (ownM m s).any (remM m last) then ((ownM m s).filter (remM m last)).flatMap fun r=>keepsF m last f (atL last r) else [s]
def keepsR (m:MdlD) (last:List Int) (f:Nat) (rs:List Int):List Int:=(rs.filter (remM m last)).flatMap fun r=>keepsF m last f (atL last r)
theorem keepsR_snoc (m:MdlD) (last:List Int) (f:Nat) (rs:List Int) (r:Int):keepsR m last f (rs ++ [r])=keepsR m last f rs ++ (if remM m last r then keepsF m last f (atL last r) else []):=by
 unfold keepsR
 rw [List.filter_append,List.flatMap_append]
 congr 1
 cases h:remM m last r
 · simp [List.filter,h]
 · simp [List.filter,h]
def endsM (m:MdlD) (last:List Int) (h:Int):List Int × Bool :=
 if fitsM m last && hasV m h && (kdA m h == 8 || kdA m h == 9) && remM m last (rgA m h) then (if kdA m h == 8 then [atL last (rgA m h)] else keepsF m last 65 (atL last (rgA m h)),true) else ([],false)
theorem fit_at {m:MdlD} {last:List Int} (h:fitRow m last=true) {r:Nat} (hr:r<last.length):mayM m (last.getD r (-1)) r=true:=by
 unfold fitRow at h
 exact List.all_eq_true.1 h r (List.mem_range.2 hr)
theorem st_in {m:MdlD} {v:Int} (h:Md.stM m v=true):∃ k:Nat,∃ hk:k<m.vers.length,v=k∧m.vers[k].kd=1:=by
 unfold Md.stM at h
 simp only [Bool.and_eq_true,decide_eq_true_eq] at h
 obtain ⟨h1,h2⟩:=h
 cases hv:m.vers[v.toNat]? with
 | none=>rw [hv] at h2;cases h2
 | some x =>
  rw [hv] at h2
  obtain ⟨hk,e⟩:=List.getElem?_eq_some_iff.1 hv
  exact ⟨v.toNat,hk,by omega,by rw [e];simpa using h2⟩
theorem lies_at {m:MdlD} (h0:riM m=(0,0,0)) {k:Nat} (hk:k<m.vers.length):liesM m m.vers[k]=true:=by
 have h5:=(riM_zero.1 h0).2.2.2.2.1
 have hr:=((wrL_zero (by decide)).1 h5 k hk).1
 unfold rVer at hr
 simp only [Bool.and_eq_true] at hr
 exact hr.1.1.1.1.1.2
theorem point_at {m:MdlD} (h0:riM m=(0,0,0)) {k:Nat} (hk:k<m.vers.length) (h:0≤m.vers[k].ofv):m.vers[k].rg=-1∧(m.vers[k].kd=10∨m.vers[k].kd=11):=by
 have hl:=lies_at h0 hk
 unfold liesM at hl
 split at hl
 · rename_i hq
   simp only [Bool.and_eq_true,beq_iff_eq] at hl
   exact ⟨hl.1,hq⟩
 · simp only [Bool.and_eq_true,beq_iff_eq] at hl
   have:=hl.1.1;omega
theorem plain_at {m:MdlD} (h0:riM m=(0,0,0)) {k:Nat} (hk:k<m.vers.length) (h:m.vers[k].kd≠10∧m.vers[k].kd≠11):m.vers[k].ofv=-1∧0≤m.vers[k].rg∧m.vers[k].rg<m.regs.length:=by
 have hl:=lies_at h0 hk
 unfold liesM at hl
 rw [if_neg (by omega)] at hl
 simp only [Bool.and_eq_true,beq_iff_eq,decide_eq_true_eq] at hl
 exact ⟨hl.1.1,hl.1.2,hl.2⟩
theorem rem_at {m:MdlD} (h0:riM m=(0,0,0)) {last:List Int} (hl:last.length=m.regs.length) (hf:fitRow m last=true) {r:Nat} (hr:r<m.regs.length) (hq:remM m last r=true) :
   ∃ k:Nat,∃ hk:k<m.vers.length,atL last r=k∧m.vers[k].kd=1∧m.vers[k].rg=r∧arM m k=m.regs[r].own:=by
 unfold remM at hq
 obtain ⟨k,hk,e,hkd⟩:=st_in hq
 have hm:=fit_at hf (r:=r) (by omega)
 have e2:last.getD r (-1)=k:=by unfold atL at e;simpa using e
 rw [e2] at hm
 unfold mayM at hm
 rw [if_pos (by simp [hasV];omega),Int.toNat_natCast,List.getElem?_eq_getElem hk] at hm
 simp only [Bool.and_eq_true,beq_iff_eq] at hm
 refine ⟨k,hk,e,hkd,hm.1,?_⟩
 rcases ver_right h0 hk with ⟨h1,_⟩ | ⟨h1,r',hr',h2,h3⟩
 · have:=(point_at h0 hk h1).1;omega
 · have hp:(plM m k).par=arM m k:=by unfold plM;rw [List.getElem?_eq_getElem hk]
   rw [← hp,h3]
   have:r'=r:=by have:=hm.1;omega
   subst this;rfl
theorem dp_succ {m:MdlD} (h0:riM m=(0,0,0)) {k s:Nat} (hk:k<m.vers.length) (hs:s<m.vers.length) (h:arM m k=s):deM m k=deM m s+1:=by
 have h1:=(len_par h0 hk).1
 rw [h] at h1
 rw [← h1,(len_self h0 hs).1]
theorem ups_at {m:MdlD} (h0:riM m=(0,0,0)) {x:Nat} (hx:x<m.vers.length) {s:Nat} (hs:(s:Int) ∈ upsM m x):s<m.vers.length∧deM m s≤deM m x∧upN m (deM m x - deM m s) x=s:=by
 rw [upsM_eq,List.mem_map] at hs
 obtain ⟨j,hj,e⟩:=hs
 rw [List.mem_range,(len_self h0 hx).1] at hj
 have key:∀ j,j≤deM m x→∃ t:Nat,upN m j x=t∧t<m.vers.length∧deM m t+j=deM m x:=by
   intro j
   induction j with
   | zero=>intro _;exact ⟨x,rfl,hx,rfl⟩
   | succ j ih =>
    intro hj
    obtain ⟨t,h1,h2,h3⟩:=ih (by omega)
    have hst:=(ups_steps h0 (v:=(x:Int)) (by omega) (len_self h0 hx).2).2
    obtain ⟨t',e1,e2,_⟩:=hst (j+1) (by rw [(len_self h0 hx).1];omega)
    refine ⟨t',e1,e2,?_⟩
    rw [upN_succ,h1] at e1
    have:=dp_succ h0 h2 e2 e1
    omega
 obtain ⟨t,h1,h2,h3⟩:=key j (by omega)
 obtain rfl:t=s:=by rw [e] at h1;omega
 exact ⟨h2,by omega,by rw [show deM m x - deM m t=j by omega];exact e⟩
theorem ups_trans {m:MdlD} (h0:riM m=(0,0,0)) {x k s:Nat} (hx:x<m.vers.length) (h:(k:Int) ∈ upsM m x) (ha:arM m k=(s:Int)) (hs:s<m.vers.length):(s:Int) ∈ upsM m x:=by
 obtain ⟨h1,h2,h3⟩:=ups_at h0 hx h
 have hd:=dp_succ h0 h1 hs ha
 rw [upsM_eq,List.mem_map]
 refine ⟨deM m x - deM m k+1,?_,by rw [upN_succ,h3,ha]⟩
 rw [List.mem_range,(len_self h0 hx).1];omega
theorem ups_self {m:MdlD} {x:Nat}:(x:Int) ∈ upsM m x:=by
 unfold upsM upL
 rw [if_neg (by omega)];exact List.mem_cons_self
theorem keeps_in {m:MdlD} (h0:riM m=(0,0,0)) {last:List Int} (hl:last.length=m.regs.length) (hf:fitRow m last=true):∀ (f s:Nat) (hs:s<m.vers.length) (x:Int),x ∈ keepsF m last f s→∃ k:Nat,x=k∧k<m.vers.length∧(s:Int) ∈ upsM m k
 | 0,s,hs,x,h=>by cases h
 | f+1,s,hs,x,h=>by
   unfold keepsF at h
   split at h
   · rw [List.mem_flatMap] at h
     obtain ⟨r,hr,hx⟩:=h
     rw [List.mem_filter] at hr
     obtain ⟨hr1,hr2⟩:=hr
     obtain ⟨q,hq,e,ho⟩:=(sel_mem _ _ _).1 hr1
     subst e
     obtain ⟨k,hk,e1,_,_,e2⟩:=rem_at h0 hl hf hq hr2
     rw [e1] at hx
     obtain ⟨y,rfl,hy,hin⟩:=keeps_in h0 hl hf f k hk x hx
     refine ⟨y,rfl,hy,ups_trans h0 hy hin ?_ hs⟩
     rw [e2]
     simpa [isOwn] using ho
   · rw [List.mem_singleton] at h
     subst h
     exact ⟨s,rfl,hs,ups_self⟩
theorem sel_nodup {α:Type} (p:α→Bool) (l:List α):(sel p l).Nodup:=by
 unfold sel
 have key:∀ (l:List α) (i:Nat),(selF p i l).Nodup:=by
   intro l
   induction l with
   | nil=>intro i;exact List.nodup_nil
   | cons x t ih =>
    intro i
    unfold selF
    split
    · refine List.nodup_cons.2 ⟨fun h=>?_,ih _⟩
      obtain ⟨k,_,e,_⟩:=(selF_mem p t (i+1) _).1 h
      omega
    · exact ih _
 exact key l 0
theorem nodup_flatMap {α β:Type} {f:α→List β}:∀ {l:List α},l.Nodup→(∀ a ∈ l,(f a).Nodup)→(∀ a ∈ l,∀ b ∈ l,a≠b→∀ x,x ∈ f a→x ∉ f b)→(l.flatMap f).Nodup
 | [],_,_,_=>List.nodup_nil
 | a :: t,hn,h1,h2=>by
   rw [List.flatMap_cons]
   obtain ⟨hna,hnt⟩:=List.nodup_cons.1 hn
   refine List.nodup_append.2 ⟨h1 a List.mem_cons_self,nodup_flatMap hnt (fun b hb=>h1 b (List.mem_cons_of_mem _ hb)) (fun b hb c hc=>h2 b (List.mem_cons_of_mem _ hb) c (List.mem_cons_of_mem _ hc)),fun x hx y hy e=>?_⟩
   subst e
   rw [List.mem_flatMap] at hy
   obtain ⟨b,hb,hxb⟩:=hy
   exact h2 a List.mem_cons_self b (List.mem_cons_of_mem _ hb) (fun e=>hna (e ▸ hb)) x hx hxb
theorem keeps_nodup {m:MdlD} (h0:riM m=(0,0,0)) {last:List Int} (hl:last.length=m.regs.length) (hf:fitRow m last=true):∀ (f s:Nat) (hs:s<m.vers.length),(keepsF m last f s).Nodup
 | 0,_,_=>List.nodup_nil
 | f+1,s,hs=>by
   unfold keepsF
   split
   · refine nodup_flatMap ((sel_nodup _ _).filter _) (fun r hr=>?_) (fun r hr r' hr' hne x hx hx'=>?_)
     · rw [List.mem_filter] at hr
       obtain ⟨q,hq,e,ho⟩:=(sel_mem _ _ _).1 hr.1
       subst e
       obtain ⟨k,hk,e1,_⟩:=rem_at h0 hl hf hq hr.2
       rw [e1]
       exact keeps_nodup h0 hl hf f k hk
     · rw [List.mem_filter] at hr hr'
       obtain ⟨q,hq,e,ho⟩:=(sel_mem _ _ _).1 hr.1
       obtain ⟨q',hq',e',ho'⟩:=(sel_mem _ _ _).1 hr'.1
       subst e e'
       obtain ⟨k,hk,e1,_,e3,e4⟩:=rem_at h0 hl hf hq hr.2
       obtain ⟨k',hk',e1',_,e3',e4'⟩:=rem_at h0 hl hf hq' hr'.2
       rw [e1] at hx
       rw [e1'] at hx'
       obtain ⟨y,rfl,hy,hin⟩:=keeps_in h0 hl hf f k hk x hx
       obtain ⟨y',e5,hy',hin'⟩:=keeps_in h0 hl hf f k' hk' _ hx'
       obtain rfl:y=y':=by omega
       obtain ⟨_,d1,u1⟩:=ups_at h0 hy hin
       obtain ⟨_,d2,u2⟩:=ups_at h0 hy hin'
       have a1:arM m k=(s:Int):=by rw [e4];simpa [isOwn] using ho
       have a2:arM m k'=(s:Int):=by rw [e4'];simpa [isOwn] using ho'
       have q1:=dp_succ h0 hk hs a1
       have q2:=dp_succ h0 hk' hs a2
       rw [q1] at u1
       rw [q2] at u2
       have hkk:k=k':=by rw [u1] at u2;omega
       subst hkk
       apply hne
       omega
   · simp
theorem nodup_le:∀ (n:Nat) (l:List Int),l.Nodup→(∀ x ∈ l,∃ k:Nat,x=k∧k<n)→l.length≤n:=by
 intro n
 induction n with
 | zero =>
  intro l _ h
  cases l with
  | nil=>simp
  | cons x t=>obtain ⟨k,_,hk⟩:=h x List.mem_cons_self;omega
 | succ n ih =>
  intro l hn h
  by_cases hm:(n:Int) ∈ l
  · have h1:=ih (l.erase n) (hn.erase _) (fun x hx=>by
      obtain ⟨k,e,hk⟩:=h x (List.mem_of_mem_erase hx)
      have:x≠n:=fun e=>by subst e;exact hn.not_mem_erase hx
      exact ⟨k,e,by omega⟩)
    rw [List.length_erase_of_mem hm] at h1
    omega
  · have:=ih l hn (fun x hx=>by
      obtain ⟨k,e,hk⟩:=h x hx
      have:x≠n:=fun e=>hm (e ▸ hx)
      exact ⟨k,e,by omega⟩)
    omega
theorem keeps_le {m:MdlD} (h0:riM m=(0,0,0)) {last:List Int} (hl:last.length=m.regs.length) (hf:fitRow m last=true) {f s:Nat} (hs:s<m.vers.length):(keepsF m last f s).length≤m.vers.length :=
 nodup_le _ _ (keeps_nodup h0 hl hf f s hs) fun x hx=>by
   obtain ⟨k,e,hk,_⟩:=keeps_in h0 hl hf f s hs x hx
   exact ⟨k,e,hk⟩
end Go.Md
