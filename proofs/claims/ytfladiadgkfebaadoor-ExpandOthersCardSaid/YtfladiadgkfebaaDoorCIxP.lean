/- What lies in what: plain. No program is in sight. -/
import Derived.Test.YtfladiadgkfebaaDoorCMdPR
namespace Go.Md
open Go.RowKit Go.Lx

def selF {α:Type} (p:α→Bool):Nat→List α→List Int
 | _,[]=>[]
 | i,x :: t=>if p x then (i:Int) :: selF p (i+1) t else selF p (i+1) t
theorem selF_cons {α:Type} (p:α→Bool) (i:Nat) (x:α) (t:List α):selF p i (x :: t)=if p x then (i:Int) :: selF p (i+1) t else selF p (i+1) t:=rfl
def sel {α:Type} (p:α→Bool) (l:List α):List Int:=selF p 0 l
theorem selF_app {α:Type} (p:α→Bool):∀ (s t:List α) (i:Nat),selF p i (s ++ t)=selF p i s ++ selF p (i+s.length) t
 | [],t,i=>by simp [selF]
 | x :: s,t,i=>by
   rw [List.cons_append,selF_cons,selF_cons]
   rw [selF_app p s t (i+1),show i+(x :: s).length=i+1+s.length by simp;omega]
   split <;> rfl
theorem sel_take {α:Type} (p:α→Bool) {l:List α} {k:Nat} (h:k<l.length):sel p (l.take (k+1))=sel p (l.take k) ++ (if p l[k] then [(k:Int)] else []):=by
 unfold sel
 rw [List.take_succ_eq_append_getElem h,selF_app,List.length_take,Nat.min_eq_left (Nat.le_of_lt h)]
 simp [selF]
theorem selF_len {α:Type} (p:α→Bool):∀ (l:List α) (i:Nat),(selF p i l).length≤l.length
 | [],_=>Nat.le_refl _
 | x :: t,i=>by
   unfold selF
   have:=selF_len p t (i+1)
   split <;> simp <;> omega
theorem sel_len {α:Type} (p:α→Bool) (l:List α):(sel p l).length≤l.length:=selF_len p l 0
theorem selF_mem {α:Type} (p:α→Bool):∀ (l:List α) (i:Nat) (v:Int),v ∈ selF p i l↔∃ k,∃ h:k<l.length,v=((i+k:Nat):Int)∧p l[k]=true
 | [],i,v=>by simp [selF]
 | x :: t,i,v=>by
   unfold selF
   constructor
   · intro h
     by_cases hp:p x=true
     · rw [if_pos hp,List.mem_cons] at h
       rcases h with rfl | h
       · exact ⟨0,by simp,by simp,hp⟩
       · obtain ⟨k,hk,e,hq⟩:=(selF_mem p t (i+1) v).1 h
         exact ⟨k+1,by simp;omega,by rw [e];congr 1;omega,hq⟩
     · rw [if_neg hp] at h
       obtain ⟨k,hk,e,hq⟩:=(selF_mem p t (i+1) v).1 h
       exact ⟨k+1,by simp;omega,by rw [e];congr 1;omega,hq⟩
   · rintro ⟨k,hk,e,hq⟩
     cases k with
     | zero =>
      rw [List.getElem_cons_zero] at hq
      rw [if_pos hq,List.mem_cons];exact .inl (by rw [e];simp)
     | succ k =>
      have:v ∈ selF p (i+1) t:=(selF_mem p t (i+1) v).2 ⟨k,by simpa using hk,by rw [e];congr 1;omega,by simpa using hq⟩
      split
      · exact List.mem_cons_of_mem _ this
      · exact this
theorem sel_mem {α:Type} (p:α→Bool) (l:List α) (v:Int):v ∈ sel p l↔∃ k,∃ h:k<l.length,v=(k:Int)∧p l[k]=true:=by
 unfold sel
 rw [selF_mem]
 simp

def rgM (m:MdlD) (v:Int):Int:=match m.vers[v.toNat]? with
 | some x=>if 0≤x.ofv then (match m.vers[x.ofv.toNat]? with | some y=>y.rg | none=>-1) else x.rg
 | none=>-1
def upL (m:MdlD):Nat→Int→List Int
 | 0,_=>[]
 | f+1,v=>if v<0 then [] else v :: upL m f (arM m v)
end Go.Md
