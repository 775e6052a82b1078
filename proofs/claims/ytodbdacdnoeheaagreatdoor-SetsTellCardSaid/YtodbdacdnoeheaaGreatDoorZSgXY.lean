/- Walks: all that is active, in order: 'Active' of the sets. -/
import Derived.Test.YtodbdacdnoeheaaGreatDoorZShelfS
import Derived.Test.YtodbdacdnoeheaaGreatDoorZSgW
namespace Go.Proofs
open Go.RowKit Go.Lx Go.Md Go.Shelf Go.BigFrame Go.Rgi
set_option linter.unusedVariables false
theorem put_take (c:Array Value) (L:List Int) (k:Nat) (hk:k<L.length) (hc:L.length≤c.size):(Go.Sort.putCells (Value.int .i64) 0 L.toArray c).toList[k]? = some (.int .i64 L[k]):=by
 rw [Array.getElem?_toList]
 unfold Go.Sort.putCells
 rw [Array.getElem?_mapIdx,Array.getElem?_eq_getElem (by omega),Option.map_some,if_pos ⟨by omega,by simp;omega⟩,Nat.sub_zero,getElem!_pos _ k (by simpa using hk)]
 simp
theorem own_sorted {N g c:Nat} {T:TypeId} {w:World} {zs L:List Int} (h:w.ownsRow N T 1 (.slice (some ⟨g,0,none⟩) zs.length c) zs.length (nums zs)) (hL:L.length=zs.length) (n:Nat) (os:Array Obj) :
   (Go.Sort.grow (Go.Sort.putRow (Value.int .i64) (Go.Sort.ahead w n) g 0 L.toArray) os).ownsRow N T 1 (.slice (some ⟨g,0,none⟩) zs.length c) L.length (nums L)∧Below N w (Go.Sort.grow (Go.Sort.putRow (Value.int .i64) (Go.Sort.ahead w n) g 0 L.toArray) os):=by
 obtain ⟨h1,h2⟩:=h
 rcases h2 with ⟨h0,_⟩ | ⟨g',c',cur,hv,hg,hh,hn,hcap,hsz,ht⟩
 · cases h0
 · cases hv
   have hlt:=(Array.getElem?_eq_some_iff.1 hh).1
   have hLc:L.length≤cur.size:=by omega
   have hs1:(Go.Sort.putRow (Value.int .i64) (Go.Sort.ahead w n) g 0 L.toArray).heap.size=w.heap.size:=by simp [Go.Sort.putRow,Go.Sort.mapBlock,Go.Sort.ahead]
   have hm:(Go.Sort.putRow (Value.int .i64) (Go.Sort.ahead w n) g 0 L.toArray).heap[g]? = some (.cells (Go.Sort.putCells (Value.int .i64) 0 L.toArray cur) T (0,0)):=by
     simp only [Go.Sort.putRow,Go.Sort.mapBlock,Go.Sort.ahead,Array.getElem?_modify,if_true,hh,Option.map_some,Go.Sort.onCells]
   refine ⟨⟨by simp [nums],.inr ⟨g,c,Go.Sort.putCells (Value.int .i64) 0 L.toArray cur,by rw [hL],hg,?_,by omega,hcap,?_,?_⟩⟩,rfl,rfl,rfl,?_,fun b hb=>?_⟩
   · rw [Go.Sort.heap_grow_old _ _ (by rw [hs1];exact hlt)];exact hm
   · unfold Go.Sort.putCells;rw [Array.size_mapIdx];exact hsz
   · apply List.ext_getElem?
     intro k
     rw [List.getElem?_take]
     rw [Nat.mul_one]
     by_cases hk:k<L.length
     · rw [if_pos hk,put_take cur L k hk hLc]
       simp [nums,hk]
     · rw [if_neg hk,List.getElem?_eq_none (by simp [nums];omega)]
   · rw [Go.Sort.size_grow,hs1];omega
   · by_cases hbz:b<w.heap.size
     · rw [Go.Sort.heap_grow_old _ _ (by rw [hs1];exact hbz)]
       simp only [Go.Sort.putRow,Go.Sort.mapBlock,Go.Sort.ahead,Array.getElem?_modify]
       rw [if_neg (by omega)]
     · omega
theorem sort_any {N:Nat} {w:World} {v:Value} {zs:List Int} (h:w.ownsRow N 3 1 v zs.length (nums zs)) (hl:zs.length≤1000000) :
   Calls Tryz.prog 79 #[v] w fun e w'=>e=.returned (.tuple #[])∧w'.ownsRow N 3 1 v (zs.mergeSort fun x y=>decide (x≤y)).length (nums (zs.mergeSort fun x y=>decide (x≤y)))∧Below N w w':=by
 by_cases h0:zs.length=0
 · have e:zs=[]:=List.length_eq_zero_iff.1 h0
   obtain ⟨a,c,rfl⟩:=ownsRow_slice h
   subst e
   refine (Any.slices_Sort_int_none Tryz.lays189 a c w).mono ?_
   rintro e w' ⟨rfl,rfl⟩
   exact ⟨rfl,by simpa using h,Below.refl _ _⟩
 · obtain ⟨g,c,rfl⟩:=ownsRow_pos h (by omega)
   refine (Tryz.slices_Sort_int g 0 c zs w (fun j hj=>?_) (h.lt g rfl).2 (by omega)).mono ?_
   · have hjl:j<zs.length:=by simpa using hj
     rw [Nat.zero_add]
     refine ⟨?_,h.frozenAt j⟩
     rw [getElem!_pos _ j hj]
     exact (h.cellAt j (by omega)).trans (by simp [nums,hjl])
   · rintro e w' ⟨rfl,n,os,rfl⟩
     have:=own_sorted h (L:=zs.mergeSort fun x y=>decide (x≤y)) (List.length_mergeSort _) n os
     exact ⟨rfl,this.1,this.2⟩
def actC (m:MdlD) (la ll:List Int):List Int:=if fit2 m la ll then actS la else []
set_option maxRecDepth 100000 in
set_option maxHeartbeats 4000000 in
theorem active1_any (x:Int) (w:World):Calls Tryz.prog 78 #[.int .i64 x] w fun e w'=>e=.returned (.bool (decide (x<0)))∧Below w.heap.size w w':=by
 cases hx:decide (x<0) with
 | false =>
  have h1:¬ (x<0):=of_decide_eq_false hx
  go_enter Tryz.func78,Tryz.ntmps78
  go_wp2_with fail
  go_ret
  exact ⟨rfl,Below.refl _ _⟩
 | true =>
  have h1:x<0:=of_decide_eq_true hx
  go_enter Tryz.func78,Tryz.ntmps78
  go_wp2_with fail
  go_ret
  exact ⟨rfl,Below.refl _ _⟩
set_option maxRecDepth 100000 in
set_option maxHeartbeats 4000000 in
theorem active_any {B:Nat} {m:MdlD} {SB:Nat} {w:World} (h:SetAt B m SB w) (h0:riM m=(0,0,0)) (hm1:m.regs.length≤1000) (hm2:m.vers.length≤1000) (la ll:List Int) (a1 a2:Option Addr) (c1 c2:Nat) (h1:RowIn w (.slice a1 la.length c1) la) (h2:RowIn w (.slice a2 ll.length c2) ll) (b1:la.length≤140737488355328) (b2:ll.length≤140737488355328) :
   Calls Tryz.prog 29 #[.pointer (some ⟨SB,0,none⟩),.agg #[.slice a1 la.length c1,.slice a2 ll.length c2]] w (RowP (actC m la ll) w):=by
 have HB1:Hid (Below w.heap.size w (w.alloc (.cells #[.slice a1 la.length c1,.slice a2 ll.length c2] 52))):=Lib.hid (below_al1 w _)
 have HC:=Lib.hid (Cb.made h1 h2)
 have FT:=Lib.hid (setsFits_any (h.grown HB1.out) h0 la ll a1 a2 c1 c2 HC.out.r1 HC.out.r2 b1 b2 (by omega))
 unfold RowP
 have HE:Hid (∀ b,fit2 m la ll=b→actC m la ll=if b then actS la else []):=Lib.hid fun b hb=>by unfold actC;rw [hb]
 have HF:=Lib.hid (fun hf:fit2 m la ll=true=>(fit_of h0 hf).1)
 have hrp:=regs_pos h0
 generalize actC m la ll=X at *
 generalize fit2 m la ll=fb at *
 clear h h1 h2 b1 b2 h0
 go_enter Tryz.func29,Tryz.ntmps29
 go_upto_region 1 with fail
 generalize w.alloc (.cells #[.slice a1 la.length c1,.slice a2 ll.length c2] 52)=W1 at *
 have d0:=HC.out.d0
 have d1:=HC.out.d1
 cases fb
 · have HX:Hid (X=[]):=Lib.hid ((HE.out false rfl).trans (if_neg (by decide)))
   clear HE
   go_wp2_with fail
   (with_reducible refine (FT.out).mono ?_)
   rintro e w2 ⟨rfl,g2⟩
   go_wp2_with fail
   go_ret
   rw [HX.out]
   exact ⟨_,rfl,World.ownsRow_nil _ _ _ _,HB1.out.trans (g2.mono HB1.out.size)⟩
 · have F:=Lib.hid (HF.out (by trivial))
   have HX:Hid (X=(la.filter fun x=>!decide (x<0)).mergeSort fun x y=>decide (x≤y)):=Lib.hid (by
     rw [HE.out true rfl,if_pos rfl]
     unfold actS
     congr 1
     refine List.filter_congr fun x _=>?_
     by_cases hx:x<0
     · rw [decide_eq_true hx,decide_eq_false (by omega)];rfl
     · rw [decide_eq_false hx,decide_eq_true (by omega)];rfl)
   go_wp2_with fail
   (with_reducible refine (FT.out).mono ?_)
   rintro e w2 ⟨rfl,g2⟩
   have HC2:=Lib.hid (HC.out.below g2)
   have HB2:=Lib.hid (HB1.out.trans (g2.mono HB1.out.size))
   have hz2:w.heap.size≤w2.heap.size:=HB2.out.size
   have hla:la.length≤1000:=by rw [F.out.hl];exact hm1
   have CL:=Lib.hid (cloneIn HC2.out.r1 (by omega) (.inl (fun e=>by have:=F.out.hl;rw [e] at this;simp at this;omega)))
   clear d0 d1 HC HB1 FT g2 HF HE
   have d0:=HC2.out.d0
   unfold RowP at CL
   go_wp2_with fail
   (with_reducible refine (CL.out).mono ?_)
   rintro e w3 ⟨v3,rfl,o3,g3⟩
   obtain ⟨a3,c3,rfl⟩:=ownsRow_slice o3
   have TH:=Lib.hid (thinAc_any (fun x=>decide (x<0)) la (.slice a3 la.length c3) w2.heap.size w3 o3 g3.size (by omega) (fun wx _ x _=>active1_any x wx))
   have HB3:=Lib.hid (below_ch HB2.out g3)
   have hz3:w.heap.size≤w3.heap.size:=HB3.out.size
   clear d0 CL g3 o3
   unfold DelP at TH
   have hD:(la.filter fun x=>!decide (x<0)).length≤la.length:=List.length_filter_le _ _
   generalize (la.filter fun x=>!decide (x<0))=D at *
   go_wp2_with fail
   (with_reducible refine (TH.out).mono ?_)
   rintro e w4 ⟨v4,rfl,o4,g4⟩
   obtain ⟨a4,c4,rfl⟩:=ownsRow_slice o4
   have SR:=Lib.hid (sort_any o4 (by omega))
   have HB4:=Lib.hid (HB3.out.trans (g4.mono hz2))
   clear TH g4 o4
   go_wp2_with fail
   (with_reducible refine (SR.out).mono ?_)
   rintro e w5 ⟨rfl,o5,g5⟩
   go_wp2_with fail
   go_ret
   rw [HX.out]
   exact ⟨_,rfl,o5.mono hz2,HB4.out.trans (g5.mono hz2)⟩
end Go.Proofs

namespace Go.Proofs
open Go.RowKit Go.Lx Go.Md Go.Shelf Go.BigFrame
set_option linter.unusedVariables false
theorem bear20_any (a1 a2:Option Addr) (n1 n2 c1 c2:Nat) (w:World) (b1:n1≤140737488355328) (b2:n2≤140737488355328):Calls Tryz.prog 28 #[.agg #[.slice a1 n1 c1,.slice a2 n2 c2]] w fun e w'=>e=.returned (.bool (decide (n1≤40) && decide (n2≤40)))∧Below w.heap.size w w':=by
 by_cases h1:n1≤40
 · by_cases h2:n2≤40
   · have d1:decide ((n1:Int)≤40)=true:=by simp;omega
     have d2:decide ((n2:Int)≤40)=true:=by simp;omega
     go_enter Tryz.func28,Tryz.ntmps28
     go_wp2_with fail
     go_ret
     exact ⟨by rw [decide_eq_true h1,decide_eq_true h2];rfl,below_al1 w _⟩
   · have d1:decide ((n1:Int)≤40)=true:=by simp;omega
     have d2:decide ((n2:Int)≤40)=false:=by simp;omega
     go_enter Tryz.func28,Tryz.ntmps28
     go_wp2_with fail
     go_ret
     exact ⟨by rw [decide_eq_true h1,decide_eq_false h2];rfl,below_al1 w _⟩
 · have d1:decide ((n1:Int)≤40)=false:=by simp;omega
   go_enter Tryz.func28,Tryz.ntmps28
   go_wp2_with fail
   go_ret
   exact ⟨by rw [decide_eq_false h1];rfl,below_al1 w _⟩
end Go.Proofs
