/- Each vertex's homes: plain laws. No program is in sight. -/
import Derived.Test.YtiimoclbmaggjaaGreatDoorILiP
namespace Go.Md
open Go.RowKit Go.Lx Go.Proofs
set_option linter.unusedVariables false
def homK (m:MdlD) (n:Nat):Nat→List Int
 | 0=>List.replicate n 0
 | k+1=>addL (homK m n k) (kidsM m k)
def homP (m:MdlD) (H:List Int):Nat→List Int
 | 0=>H
 | k+1=>addL (homP m H k) (pntM m k)
theorem homK_len (m:MdlD) (n:Nat):∀ k,(homK m n k).length=n
 | 0=>List.length_replicate
 | k+1=>by rw [homK,addL_len,homK_len m n k]
theorem homP_len (m:MdlD) (H:List Int):∀ k,(homP m H k).length=H.length
 | 0=>rfl
 | k+1=>by rw [homP,addL_len,homP_len m H k]
theorem homK_at (m:MdlD) (n:Nat) {v:Nat} (hv:v<n):∀ k,(homK m n k).getD v 0=((sumN (fun r=>(kidsM m r).count (v:Int)) k:Nat):Int)
 | 0=>by rw [homK,List.getD_eq_getElem?_getD,List.getElem?_replicate,if_pos hv];rfl
 | k+1=>by
   rw [homK,addL_at _ _ _ (by rw [homK_len];exact hv),homK_at m n hv k,sumN]
   omega
theorem homP_at (m:MdlD) (H:List Int) {v:Nat} (hv:v<H.length):∀ k,(homP m H k).getD v 0=H.getD v 0+((sumN (fun u=>(pntM m u).count (v:Int)) k:Nat):Int)
 | 0=>by rw [homP];simp [sumN]
 | k+1=>by
   rw [homP,addL_at _ _ _ (by rw [homP_len];exact hv),homP_at m H hv k,sumN]
   omega
theorem sumN_le (f:Nat→Nat) (h:∀ k,f k≤1):∀ n,sumN f n≤n
 | 0=>Nat.le_refl _
 | n+1=>by have:=sumN_le f h n;have:=h n;rw [sumN];omega
theorem homK_bd (m:MdlD) (n k:Nat):∀ x ∈ homK m n k,0≤x∧x≤k:=fun x hx=>by
 obtain ⟨v,hv,rfl⟩:=List.getElem_of_mem hx
 have hv':v<n:=by rw [homK_len] at hv;exact hv
 have e:=homK_at m n hv' k
 rw [List.getD_eq_getElem?_getD,List.getElem?_eq_getElem hv] at e
 have:=sumN_le (fun r=>(kidsM m r).count (v:Int)) (fun r=>List.nodup_iff_count.1 (sel_nodup _ _) _) k
 simp only [Option.getD_some] at e
 omega
theorem homP_bd (m:MdlD) (H:List Int) (B k:Nat) (hH:∀ x ∈ H,0≤x∧x≤B):∀ x ∈ homP m H k,0≤x∧x≤B+k:=fun x hx=>by
 obtain ⟨v,hv,rfl⟩:=List.getElem_of_mem hx
 have hv':v<H.length:=by rw [homP_len] at hv;exact hv
 have e:=homP_at m H hv' k
 rw [List.getD_eq_getElem?_getD,List.getElem?_eq_getElem hv,List.getD_eq_getElem?_getD,List.getElem?_eq_getElem hv'] at e
 have:=sumN_le (fun u=>(pntM m u).count (v:Int)) (fun r=>List.nodup_iff_count.1 (sel_nodup _ _) _) k
 have h2:=hH _ (List.getElem_mem hv')
 simp only [Option.getD_some] at e
 omega
theorem hom_one {m:MdlD} (h0:riM m=(0,0,0)) {v:Nat} (hv:v<m.vers.length):(homP m (homK m m.vers.length m.regs.length) m.vers.length).getD v 0=1:=by
 rw [homP_at m _ (by rw [homK_len];exact hv),homK_at m _ hv]
 have:=homes_one h0 hv
 omega
end Go.Md
