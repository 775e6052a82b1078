/- Where a history leads: plain. -/
import Derived.Test.YtiimoclbmaggjaaGreatDoorZIxGI
namespace Go.Md
open Go.RowKit Go.Lx Go.Proofs
set_option linter.unusedVariables false

def atL (last:List Int) (r:Int):Int:=last.getD r.toNat (-1)
def mayM (m:MdlD) (v r:Int):Bool:=if hasV m v then (match m.zc[v.toNat]? with | some x=>x.rg == r && (x.kd == 1 || x.kd == 2) | none=>false) else v == -1
def fitRow (m:MdlD) (last:List Int):Bool:=(List.range last.length).all fun r=>mayM m (last.getD r (-1)) r
def stands (m:MdlD) (v:Int):Bool:=hasV m v && (match m.zc[v.toNat]? with | some x=>x.kd == 1 || x.kd == 2 | none=>false)
def rgA (m:MdlD) (v:Int):Int:=match m.zc[v.toNat]? with | some x=>x.rg | none=>-1
def kdA (m:MdlD) (v:Int):Nat:=match m.zc[v.toNat]? with | some x=>x.kd | none=>0
theorem fit_at {m:MdlD} {last:List Int} (h:fitRow m last=true) {r:Nat} (hr:r<last.length):mayM m (last.getD r (-1)) r=true:=by
 unfold fitRow at h;exact List.all_eq_true.1 h r (List.mem_range.2 hr)
theorem st_in {m:MdlD} {v:Int} (h:Md.stM m v=true):∃ k:Nat,∃ hk:k<m.zc.length,v=k/\m.zc[k].kd=1:=by
 unfold Md.stM at h;simp only [Bool.and_eq_true,decide_eq_true_eq] at h;obtain ⟨h1,h2⟩:=h
 cases hv:m.zc[v.toNat]? with
 | none=>rw [hv] at h2;cases h2
 | some x =>
  rw [hv] at h2;obtain ⟨hk,e⟩:=List.getElem?_eq_some_iff.1 hv;exact ⟨v.toNat,hk,by omega,by rw [e];simpa using h2⟩
theorem lies_at {m:MdlD} (h0:riM m=(0,0,0)) {k:Nat} (hk:k<m.zc.length):liesM m m.zc[k]=true:=by
 have h5:=(yB.1 h0).2.2.2.2.1;have hr:=((yA (by decide)).1 h5 k hk).1;unfold rVer at hr;simp only [Bool.and_eq_true] at hr;exact hr.1.1.1.1.1.2
theorem zaE {m:MdlD} (h0:riM m=(0,0,0)) {k:Nat} (hk:k<m.zc.length) (h:m.zc[k].kd≠10/\m.zc[k].kd≠11):m.zc[k].ofv=-1/\0<=m.zc[k].rg/\m.zc[k].rg<m.zb.length:=by
 have hl:=lies_at h0 hk;unfold liesM at hl;rw [if_neg (by omega)] at hl;simp only [Bool.and_eq_true,beq_iff_eq,decide_eq_true_eq] at hl;exact ⟨hl.1.1,hl.1.2,hl.2⟩
theorem zW {m:MdlD} (h0:riM m=(0,0,0)) {k s:Nat} (hk:k<m.zc.length) (hs:s<m.zc.length) (h:arM m k=s):deM m k=deM m s+1:=by
 have h1:=(yp h0 hk).1;rw [h] at h1;rw [<- h1,(zR h0 hs).1]
theorem yr {m:MdlD} (h0:riM m=(0,0,0)) {x:Nat} (hx:x<m.zc.length) {s:Nat} (hs:(s:Int) ∈ upsM m x):s<m.zc.length/\deM m s<=deM m x/\upN m (deM m x - deM m s) x=s:=by
 rw [yJ,List.mem_map] at hs;obtain ⟨j,hj,e⟩:=hs;rw [List.mem_range,(zR h0 hx).1] at hj
 have key:∀ j,j<=deM m x->∃ t:Nat,upN m j x=t/\t<m.zc.length/\deM m t+j=deM m x:=by
   intro j
   induction j with
   | zero=>intro _;exact ⟨x,rfl,hx,rfl⟩
   | succ j ih =>
    intro hj;obtain ⟨t,h1,h2,h3⟩:=ih (by omega);have hst:=(yw h0 (v:=(x:Int)) (by omega) (zR h0 hx).2).2;obtain ⟨t',e1,e2,_⟩:=hst (j+1) (by rw [(zR h0 hx).1];omega);refine ⟨t',e1,e2,?_⟩;rw [ye,h1] at e1;have:=zW h0 h2 e2 e1;omega
 obtain ⟨t,h1,h2,h3⟩:=key j (by omega);obtain rfl:t=s:=by rw [e] at h1;omega
 exact ⟨h2,by omega,by rw [show deM m x - deM m t=j by omega];exact e⟩
theorem kD {m:MdlD} (h0:riM m=(0,0,0)) {x k s:Nat} (hx:x<m.zc.length) (h:(k:Int) ∈ upsM m x) (ha:arM m k=(s:Int)) (hs:s<m.zc.length):(s:Int) ∈ upsM m x:=by
 obtain ⟨h1,h2,h3⟩:=yr h0 hx h;have hd:=zW h0 h1 hs ha;rw [yJ,List.mem_map];refine ⟨deM m x - deM m k+1,?_,by rw [ye,h3,ha]⟩;rw [List.mem_range,(zR h0 hx).1];omega
theorem zaF {m:MdlD} {x:Nat}:(x:Int) ∈ upsM m x:=by
 unfold upsM upL;rw [if_neg (by omega)];exact List.mem_cons_self
theorem zbH {α:Type} (p:α->Bool) (l:List α):(sel p l).Nodup:=by
 unfold sel
 have key:∀ (l:List α) (i:Nat),(selF p i l).Nodup:=by
   intro l
   induction l with
   | nil=>intro i;exact List.nodup_nil
   | cons x t ih =>
    intro i;unfold selF
    split
    . refine List.nodup_cons.2 ⟨fun h=>?_,ih _⟩
      obtain ⟨k,_,e,_⟩:=(jj p t (i+1) _).1 h;omega
    . exact ih _
 exact key l 0
theorem jC {α β:Type} {f:α->List β}:∀ {l:List α},l.Nodup->(∀ a ∈ l,(f a).Nodup)->(∀ a ∈ l,∀ b ∈ l,a≠b->∀ x,x ∈ f a->x ∉ f b)->(l.flatMap f).Nodup
 | [],_,_,_=>List.nodup_nil
 | a :: t,hn,h1,h2=>by
   rw [List.flatMap_cons];obtain ⟨hna,hnt⟩:=List.nodup_cons.1 hn;refine List.nodup_append.2 ⟨h1 a List.mem_cons_self,jC hnt (fun b hb=>h1 b (List.mem_cons_of_mem _ hb)) (fun b hb c hc=>h2 b (List.mem_cons_of_mem _ hb) c (List.mem_cons_of_mem _ hc)),fun x hx y hy e=>?_⟩;subst e;rw [List.mem_flatMap] at hy;obtain ⟨b,hb,hxb⟩:=hy;exact h2 a List.mem_cons_self b (List.mem_cons_of_mem _ hb) (fun e=>hna (e ▸ hb)) x hx hxb
theorem zc6:∀ (n:Nat) (l:List Int),l.Nodup->(∀ x ∈ l,∃ k:Nat,x=k/\k<n)->l.length<=n:=by
 intro n
 induction n with
 | zero =>
  intro l _ h
  cases l with
  | nil=>simp
  | cons x t=>obtain ⟨k,_,hk⟩:=h x List.mem_cons_self;omega
 | succ n ih =>
  intro l hn h
  by_cases hm:(n:Int) ∈ l
  . have h1:=ih (l.erase n) (hn.erase _) (fun x hx=>by
      obtain ⟨k,e,hk⟩:=h x (List.mem_of_mem_erase hx);have:x≠n:=fun e=>by subst e;exact hn.not_mem_erase hx
      exact ⟨k,e,by omega⟩)
    rw [List.length_erase_of_mem hm] at h1;omega
  . have:=ih l hn (fun x hx=>by
      obtain ⟨k,e,hk⟩:=h x hx;have:x≠n:=fun e=>hm (e ▸ hx);exact ⟨k,e,by omega⟩)
    omega
end Go.Md
