/- Walks: SameInts; small of law 16. -/
import Derived.Test.YtiimoclbmaggjaaGreatDoorLIxJK
import Derived.Test.YtiimoclbmaggjaaGreatDoorLMdFGH
namespace Go.Proofs
open Go.RowKit Go.Lx Go.Md Go.Shelf Go.BigFrame
set_option linter.unusedVariables false
theorem addr_add (b off j:Nat):(⟨b,off,none⟩:Addr).add j=⟨b,off+j,none⟩:=by
 unfold Addr.add;split <;> simp_all
theorem RowIn.below {w w':World} {v:Value} {l:List Int} (h:RowIn w v l) (g:Below w.heap.size w w'):RowIn w' v l:=by
 rcases h with h | ⟨b,off,c,e,hc,hb,hcs⟩
 · exact .inl h
 · refine .inr ⟨b,off,c,e,hc,Nat.lt_of_lt_of_le hb g.size,fun j u hj=>?_⟩
   rw [addr_add]
   have:=hcs j u hj
   rw [addr_add] at this
   exact (g.cell (p:=⟨b,off+j,none⟩) hb).trans this
theorem RowIn.own {N:Nat} {w:World} {v:Value} {l:List Int} (h:w.ownsRow N 3 1 v l.length (nums l)):RowIn w v l:=by
 have hc:=fun g hg=>World.ownsRow.cells h (g:=g) hg
 rcases h.2 with ⟨e,h0⟩ | ⟨g,cap,cur,e,hN,hg,hcap,_⟩
 · exact .inl ⟨none,0,by rw [e],List.eq_nil_of_length_eq_zero h0⟩
 · exact .inr ⟨g,0,cap,e,hcap,(Array.getElem?_eq_some_iff.1 hg).1,hc g (by rw [e];rfl)⟩
theorem RowIn.len {w:World} {v:Value} {l:List Int} (h:RowIn w v l):∃ a c,v=.slice a l.length c∧l.length≤c∧∀ k (hk:k<l.length),∃ b off,a=some ⟨b,off,none⟩∧b<w.heap.size∧w.cell? ⟨b,off+k,none⟩=some (.int .i64 l[k]):=by
 rcases h with ⟨a,c,rfl,rfl⟩ | ⟨b,off,c,rfl,hc,hb,hcs⟩
 · exact ⟨a,c,rfl,Nat.zero_le _,fun k hk=>absurd hk (by simp)⟩
 · refine ⟨_,c,rfl,hc,fun k hk=>⟨b,off,rfl,hb,?_⟩⟩
   have:=hcs k (.int .i64 l[k]) (by simp [nums,hk])
   rwa [addr_add] at this
def SameP (l1 l2:List Int) (w:World) (e:Ending) (w':World):Prop:=e=.returned (.bool (decide (l1=l2)))∧Below w.heap.size w w'
theorem sameints_any (l1 l2:List Int) (v1 v2:Value) (w:World) (h1:RowIn w v1 l1) (h2:RowIn w v2 l2) (b1:l1.length≤1000000) (b2:l2.length≤1000000):Calls Tryz.prog 81 #[v1,v2] w (SameP l1 l2 w):=by
 have R1:=Lib.hid (fun (wx:World) (g:Below w.heap.size w wx)=>(h1.below g).len)
 have R2:=Lib.hid (fun (wx:World) (g:Below w.heap.size w wx)=>(h2.below g).len)
 obtain ⟨a1,c1,rfl,hc1,_⟩:=h1.len
 obtain ⟨a2,c2,rfl,hc2,_⟩:=h2.len
 clear h1 h2
 by_cases hl:l1.length=l2.length
 · obtain ⟨n,hn⟩:∃ n,l1.length=n:=⟨_,rfl⟩
   have hn2:l2.length=n:=by omega
   have HN1:=Lib.hid hn
   have HN2:=Lib.hid hn2
   rw [hn] at hc1 b1 ⊢
   rw [hn2] at hc2 ⊢
   clear hl hn hn2
   go_enter Tryz.func81,Tryz.ntmps81
   go_wp2
   go_loopw [5] (fun i wr=>∃ k:Nat,k≤n∧i=.int .i64 k∧Below w.heap.size w wr∧l1.take k=l2.take k) (fun i _=>n - (intOf i).toNat)
   case atStart=>exact ⟨0,by omega,rfl,Below.refl _ _,by simp⟩
   case round =>
    obtain ⟨wo,rfl⟩:∃ wo:World,wo=wr:=⟨_,rfl⟩
    obtain ⟨k,hk,rfl,hb,ht⟩:=hrel
    have HB:=Lib.hid hb
    have HT:=Lib.hid ht
    clear hb ht
    by_cases hlt:k<n
    · have k1:k<l1.length:=by rw [HN1.out];exact hlt
      have k2:k<l2.length:=by rw [HN2.out];exact hlt
      obtain ⟨a1',c1',e1,_,q1⟩:=R1.out wo HB.out
      obtain ⟨a2',c2',e2,_,q2⟩:=R2.out wo HB.out
      obtain ⟨x1,o1,ea1,_,d1⟩:=q1 k k1
      obtain ⟨x2,o2,ea2,_,d2⟩:=q2 k k2
      simp only [Value.slice.injEq] at e1 e2
      obtain ⟨rfl,_,rfl⟩:=e1
      obtain ⟨rfl,_,rfl⟩:=e2
      subst ea1 ea2
      have hI:(k:Int)<(n:Int):=by omega
      have hI0:(0:Int)≤(k:Int):=by omega
      have HS:Hid (∀ b,(l1[k] == l2[k])=b→(b=true→l1.take (k+1)=l2.take (k+1))∧(b=false→l1≠l2)):=fun b hb=>⟨fun ht=>by
          rw [ht] at hb
          rw [List.take_succ_eq_append_getElem k1,List.take_succ_eq_append_getElem k2,HT.out,eq_of_beq hb],fun hf e=>by subst e;rw [hf] at hb;simp at hb⟩
      obtain ⟨y1,hy1⟩:∃ y,l1[k]=y:=⟨_,rfl⟩
      obtain ⟨y2,hy2⟩:∃ y,l2[k]=y:=⟨_,rfl⟩
      rw [hy1] at d1 HS
      rw [hy2] at d2 HS
      clear q1 q2 hy1 hy2 k1 k2
      cases hd:(y1 == y2) with
      | true =>
       have hT:=Lib.hid ((HS.out true hd).1 rfl)
       have hd2:(y1 != y2)=false:=by simp only [bne,hd];rfl
       clear HS
       go_wp2
       go_quiet (fail)
       go_wp2
       go_roundw
       case rel=>exact ⟨k+1,by omega,by go_num,below_drewN HB.out nq,hT.out⟩
       case measure=>simp [intOf] <;> omega
      | false =>
       have hF:=Lib.hid ((HS.out false hd).2 rfl)
       have hd2:(y1 != y2)=true:=by simp only [bne,hd];rfl
       clear HS
       go_wp2
       go_quiet (fail)
       go_wp2
       go_ret
       exact ⟨by rw [decide_eq_false hF.out];rfl,below_drewN HB.out nq⟩
    · have hE:Hid (l1=l2):=Lib.hid (by
        have:=HT.out
        rw [List.take_of_length_le (by have:=HN1.out;omega),List.take_of_length_le (by have:=HN2.out;omega)] at this
        exact this)
      go_wp2
      go_ret
      exact ⟨by rw [decide_eq_true hE.out];rfl,HB.out⟩
 · have hne:Hid (l1≠l2):=Lib.hid (fun e=>hl (by rw [e]))
   have hd:((l1.length:Int) != (l2.length:Int))=true:=by simp only [bne_iff_ne,ne_eq];omega
   clear R1 R2
   go_enter Tryz.func81,Tryz.ntmps81
   go_wp2
   all_goals first
     | (go_ret;exact ⟨by rw [decide_eq_false hne.out];rfl,Below.refl _ _⟩)
     | (exfalso;omega)
end Go.Proofs
