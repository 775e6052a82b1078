/- A library as it came in: the opener. -/
import Derived.Test.YtfladiadgkfebaaGreatDoorDMdOp
import Derived.Test.YtfladiadgkfebaaGreatDoorDEmA
namespace Go.Proofs
open Go.RowKit Go.Lx Go.Md
set_option linter.unusedVariables false
set_option maxRecDepth 100000 in
theorem libs_open {H:Type} {enc:TypeId × Value→H} {W:World} {v:Value} {d:DataW H} {ps:List MemPlace} (hv:∃ a n c,v=.slice a n c)
   (h:DataW.Trod enc Tryz.prog W 0 (fun _=>true) true 22 v d ps) (hw:Wt 22 d):∃ (l:List MdlD) (a:Option Addr) (c:Nat),v=.slice a l.length c∧LibV W.heap.size W (.slice a l.length c) l∧l.length≤140737488355328∧∀ m ∈ l,MdlOk m:=by
 obtain ⟨a,n,c,rfl⟩:=hv
 obtain ⟨fuel,hf0⟩:=h
 obtain ⟨l,a1,c1,e,s1,w1,q1⟩:=rows_open (E:=ModE W.heap.size) (OK:=MdlOk) Tryz.underlying22 (sz:=6) (by kernel_rfl) (by omega) (of_decide_eq_true (by kernel_rfl)) (fun m cs y hy hw=>by
   obtain ⟨x,p,e1,hm,ok⟩:=mdl_raw m cs y hy hw
   subst e1
   refine ⟨x,ok,fun b o hj=>⟨p,hm.weaken fun _ b hb _=>hb,hj 0 (by omega),hj 1 (by omega),hj 2 (by omega),hj 3 (by omega),hj 4 (by omega),hj 5 (by omega)⟩⟩) hf0 hw
 have e':Value.slice a n c=.slice a1 l.length c1:=by simpa [Value.cells] using e
 exact ⟨l,a1,c1,e',s1.weaken (fun b hb _=>hb) (fun _ _ _ h=>h),w1,q1⟩
end Go.Proofs


namespace Go.Proofs
open Go.RowKit Go.Lx Go.Md Go.Shelf Go.BigFrame
set_option linter.unusedVariables false
structure Fw1 (m:MdlD):Prop where
 rg:m.regs.length≤15
 vr:m.vers.length≤20
 tr:m.trns.length≤20
 few:FewP m
structure Fw (l:List MdlD):Prop where
 len:l.length≤5
 all:∀ k (h:k<l.length),Fw1 l[k]
theorem Fw1.sml {m:MdlD} (h:Fw1 m):Sml m :=
 ⟨by have:=h.few.vars;omega,by have:=h.few.evs;omega,by have:=h.few.regs;omega,by have:=h.few.vers;omega,by have:=h.few.trns;omega,fun x hx=>by have:=h.few.df x hx;omega,fun x hx=>by have:=h.few.tr x hx;omega⟩
theorem Fw.mem {l:List MdlD} (h:Fw l) {m:MdlD} (hm:m ∈ l):Fw1 m:=by
 obtain ⟨k,hk,rfl⟩:=List.getElem_of_mem hm
 exact h.all k hk
set_option maxRecDepth 100000 in
set_option maxHeartbeats 4000000 in
theorem few18_any (N:Nat) (l:List MdlD) (a:Option Addr) (c:Nat) (w:World) (hl:LibV N w (.slice a l.length c) l) (hN:N≤w.heap.size) (hll:l.length≤140737488355328) (hok:∀ m ∈ l,MdlOk m) :
   Calls Tryz.prog 5 #[.slice a l.length c] w fun e w'=>BoolSays (Fw l) e∧Below w.heap.size w w':=by
 by_cases h5:l.length≤5
 · have d5:((l.length:Int)≤5):=by omega
   have HL:=Lib.hid fun (wx:World) (g:Below w.heap.size w wx)=>hl.below (g.mono hN)
   have HOK:=Lib.hid hok
   clear hl hok
   go_enter Tryz.func5,Tryz.ntmps5
   go_wp2_with fail
   go_loopw [3] (fun i wr=>∃ k:Nat,k≤l.length∧i=.int .i64 k∧Below w.heap.size w wr∧Hid (∀ j (h:j<l.length),j<k→Fw1 l[j])) (fun i _=>l.length - (intOf i).toNat)
   case atStart=>exact ⟨0,by omega,rfl,Below.refl _ _,Lib.hid fun j _ hj=>absurd hj (Nat.not_lt_zero _)⟩
   case round =>
    obtain ⟨wo,rfl⟩:∃ wo:World,wo=wr:=⟨_,rfl⟩
    obtain ⟨k,hk,rfl,hb,HZ⟩:=hrel
    have HB:=Lib.hid hb
    by_cases hlt:k<l.length
    · have hkI:(k:Int)<(l.length:Int):=by omega
      have hk0:(0:Int)≤(k:Int):=by omega
      obtain ⟨m,hm⟩:∃ m,l[k]=m:=⟨_,rfl⟩
      obtain ⟨b1,o1,e1,hb1,pm,hmo,r0,r1,r2,r3,r4,r5⟩:=(HL.out wo hb).get hlt
      rw [hm] at hmo r0 r1 r2 r3 r4 r5
      have hmk:=HOK.out _ (List.getElem_mem hlt)
      rw [hm] at hmk
      have HZ1:Hid (Fw1 m→∀ j (h:j<l.length),j<k+1→Fw1 l[j]):=Lib.hid fun hm1 j h hj=>by
        by_cases e:j=k
        · subst e;rw [hm];exact hm1
        · exact HZ.out j h (by omega)
      have HZ2:Hid (¬ Fw1 m→¬ Fw l):=Lib.hid fun hm1 hf=>hm1 (by have:=hf.all k hlt;rw [hm] at this;exact this)
      have HF:=Lib.hid (few_any m pm wo hmo hmk)
      unfold mdV at HF
      have q3:=hmk.regs
      have q4:=hmk.vers
      have q5:=hmk.trns
      subst e1
      clear hmo hmk hb hm hb1
      by_cases h1:m.regs.length≤15
      · have d1:((m.regs.length:Int)≤15):=by omega
        by_cases h2:m.vers.length≤20
        · have d2:((m.vers.length:Int)≤20):=by omega
          by_cases h3:m.trns.length≤20
          · have d3:((m.trns.length:Int)≤20):=by omega
            go_wp2_with ((with_reducible refine (HF.out).mono ?_);rintro e w' ⟨⟨b,rfl,hs⟩,hb9⟩;rcases b with _ | _)
            · have HN:=Lib.hid (HB.out.trans (hb9.mono HB.out.size))
              clear hb9 hs
              go_wp2_with fail
              go_ret
              exact ⟨⟨false,rfl,fun ht=>by cases ht⟩,HN.out⟩
            · have HN:=Lib.hid (HB.out.trans (hb9.mono HB.out.size))
              have HZ3:=Lib.hid (HZ1.out ⟨h1,h2,h3,hs rfl⟩)
              clear hb9 hs
              go_wp2_with fail
              go_roundw
              case rel=>exact ⟨k+1,by omega,by go_num,HN.out,HZ3⟩
              case measure=>simp [intOf] <;> omega
          · have d3:¬ ((m.trns.length:Int)≤20):=by omega
            go_wp2_with fail
            go_ret
            exact ⟨⟨false,rfl,fun ht=>by cases ht⟩,HB.out⟩
        · have d2:¬ ((m.vers.length:Int)≤20):=by omega
          go_wp2_with fail
          go_ret
          exact ⟨⟨false,rfl,fun ht=>by cases ht⟩,HB.out⟩
      · have d1:¬ ((m.regs.length:Int)≤15):=by omega
        go_wp2_with fail
        go_ret
        exact ⟨⟨false,rfl,fun ht=>by cases ht⟩,HB.out⟩
    · obtain rfl:k=l.length:=by omega
      go_wp2_with fail
      go_ret
      exact ⟨⟨true,rfl,fun _=>⟨h5,fun k hk=>HZ.out k hk hk⟩⟩,HB.out⟩
 · have d5:¬ ((l.length:Int)≤5):=by omega
   clear hl
   go_enter Tryz.func5,Tryz.ntmps5
   go_wp2_with fail
   go_ret
   exact ⟨⟨false,rfl,fun ht=>by cases ht⟩,Below.refl _ _⟩
end Go.Proofs
