/- Walks: SameInts; small of law 16. -/
import Derived.Test.YtiimoclbmaggjaaGreatDoorZIxJK
import Derived.Test.YtiimoclbmaggjaaGreatDoorZMdFGH
namespace Go.Proofs
open Go.RowKit Go.Lx Go.Md Go.Shelf Go.BigFrame
open Lib(hid)
open Go.Proofs.Tryz
set_option linter.unusedVariables false
theorem yU (b off j:Nat):(⟨b,off,none⟩:Addr).add j=⟨b,off+j,none⟩:=by
 unfold Addr.add;split <;> simp_all
theorem RowIn.zf {w w':World} {v:Value} {l:List Int} (h:RowIn w v l) (g:Bl w w'):RowIn w' v l:=by
 rcases h with h | ⟨b,off,c,e,hc,hb,hcs⟩
 . exact .inl h
 . refine .inr ⟨b,off,c,e,hc,Nat.lt_of_lt_of_le hb g.size,fun j u hj=>?_⟩
   rw [yU];have:=hcs j u hj;rw [yU] at this;exact (g.cell (p:=⟨b,off+j,none⟩) hb).trans this
theorem RowIn.own {N:Nat} {w:World} {v:Value} {l:List Int} (h:w.ownsRow N 3 1 v l.length (nums l)):RowIn w v l:=by
 have hc:=fun g hg=>World.ownsRow.cells h (g:=g) hg
 rcases h.2 with ⟨e,h0⟩ | ⟨g,cap,cur,e,hN,hg,hcap,_⟩
 . exact .inl ⟨none,0,by rw [e],List.eq_nil_of_length_eq_zero h0⟩
 . exact .inr ⟨g,0,cap,e,hcap,(Array.getElem?_eq_some_iff.1 hg).1,hc g (by rw [e];rfl)⟩
theorem RowIn.len {w:World} {v:Value} {l:List Int} (h:RowIn w v l):∃ a c,v=.slice a l.length c/\l.length<=c/\∀ k (hk:k<l.length),∃ b off,a=some ⟨b,off,none⟩/\b<w.heap.size/\w.cell? ⟨b,off+k,none⟩=some (.int .i64 l[k]):=by
 rcases h with ⟨a,c,rfl,rfl⟩ | ⟨b,off,c,rfl,hc,hb,hcs⟩
 . exact ⟨a,c,rfl,Nat.zero_le _,fun k hk=>absurd hk (by simp)⟩
 . refine ⟨_,c,rfl,hc,fun k hk=>⟨b,off,rfl,hb,?_⟩⟩
   have:=hcs k (.int .i64 l[k]) (by simp [nums,hk]);rwa [yU] at this
def SameP (l1 l2:List Int) (w:World) (e:Ending) (w':World):Prop:=e=.returned (.bool (decide (l1=l2)))/\Bl w w'
theorem qL (l1 l2:List Int) (v1 v2:Value) (w:World) (h1:RowIn w v1 l1) (h2:RowIn w v2 l2) (b1:l1.length<=1000000) (b2:l2.length<=1000000):Calls prog 81 #[v1,v2] w (SameP l1 l2 w):=by
 have R1:=hid (fun (wx:World) (g:Bl w wx)=>(h1.zf g).len);have R2:=hid (fun (wx:World) (g:Bl w wx)=>(h2.zf g).len);obtain ⟨a1,c1,rfl,hc1,_⟩:=h1.len;obtain ⟨a2,c2,rfl,hc2,_⟩:=h2.len;clear h1 h2
 by_cases hl:l1.length=l2.length
 . obtain ⟨n,hn⟩:=ex2 l1.length
   have hn2:l2.length=n:=by omega
   have HN1:=hid hn;have HN2:=hid hn2;rw [hn] at hc1 b1 |-;rw [hn2] at hc2 |-;clear hl hn hn2;go_enter func81,ntmps81
   go_wp2
   go_loopw [5] (fun i wr=>∃ k:Nat,k<=n/\i=.int .i64 k/\Bl w wr/\l1.take k=l2.take k) (fun i _=>n - (intOf i).toNat)
   case atStart=>exact ⟨0,by omega,rfl,Below.refl _ _,by simp⟩
   case round =>
    obtain ⟨wo,rfl⟩:=ex1 wr;obtain ⟨k,hk,rfl,hb,ht⟩:=hrel;have HB:=hid hb;have HT:=hid ht;clear hb ht
    by_cases hlt:k<n
    . have k1:k<l1.length:=by rw [HN1.o];exact hlt
      have k2:k<l2.length:=by rw [HN2.o];exact hlt
      obtain ⟨a1',c1',e1,_,q1⟩:=R1.o wo HB.o;obtain ⟨a2',c2',e2,_,q2⟩:=R2.o wo HB.o;obtain ⟨x1,o1,ea1,_,d1⟩:=q1 k k1;obtain ⟨x2,o2,ea2,_,d2⟩:=q2 k k2;simp only [Value.slice.injEq] at e1 e2;obtain ⟨rfl,_,rfl⟩:=e1;obtain ⟨rfl,_,rfl⟩:=e2;subst ea1 ea2;have hI:(k:Int)<(n:Int):=by omega
      have hI0:(0:Int)<=(k:Int):=by omega
      have HS:Hid (∀ b,(l1[k] == l2[k])=b->(b=true->l1.take (k+1)=l2.take (k+1))/\(b=false->l1≠l2)):=fun b hb=>⟨fun ht=>by
          rw [ht] at hb;rw [List.take_succ_eq_append_getElem k1,List.take_succ_eq_append_getElem k2,HT.o,eq_of_beq hb],fun hf e=>by subst e;rw [hf] at hb;simp at hb⟩
      obtain ⟨y1,hy1⟩:=ex2 (l1[k]);obtain ⟨y2,hy2⟩:=ex2 (l2[k]);rw [hy1] at d1 HS;rw [hy2] at d2 HS;clear q1 q2 hy1 hy2 k1 k2
      cases hd:(y1 == y2) with
      | true =>
       have hT:=hid ((HS.o true hd).1 rfl);have hd2:(y1 != y2)=false:=by simp only [bne,hd];rfl
       clear HS
       go_wp2
       go_quiet (fail)
       go_wp2
       go_roundw
       case rel=>exact ⟨k+1,by omega,by go_num,below_drewN HB.o nq,hT.o⟩
       case measure=>simp [intOf] <;> omega
      | false =>
       have hF:=hid ((HS.o false hd).2 rfl);have hd2:(y1 != y2)=true:=by simp only [bne,hd];rfl
       clear HS
       go_wp2
       go_quiet (fail)
       go_wp2
       go_ret;exact ⟨by rw [decide_eq_false hF.o];rfl,below_drewN HB.o nq⟩
    . have hE:Hid (l1=l2):=hid (by
        have:=HT.o;rw [List.take_of_length_le (by have:=HN1.o;omega),List.take_of_length_le (by have:=HN2.o;omega)] at this;exact this)
      go_wp2
      go_ret;exact ⟨by rw [decide_eq_true hE.o];rfl,HB.o⟩
 . have hne:Hid (l1≠l2):=hid (fun e=>hl (by rw [e]))
   have hd:((l1.length:Int) != (l2.length:Int))=true:=by simp only [bne_iff_ne,ne_eq];omega
   clear R1 R2;go_enter func81,ntmps81
   go_wp2
   all_goals first
     | (go_ret;exact ⟨by rw [decide_eq_false hne.o];rfl,Below.refl _ _⟩)
     | (exfalso;omega)
end Go.Proofs
