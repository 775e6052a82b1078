/- Walks: 'few' of law 18. -/
import Derived.Test.YtfladiadgkfebaaGreatDoorKEmA
namespace Go.Proofs
open Go.RowKit Go.Lx Go.Md Go.Shelf Go.BigFrame
open Lib(hid)
set_option maxRecDepth 100000
set_option maxHeartbeats 0
set_option linter.unusedVariables false
structure Fw1 (m:MdlD):Prop where
 rg:m.regs.length<=15
 vr:m.vers.length<=20
 tr:m.trns.length<=20
 few:FewP m
structure Fw (l:List MdlD):Prop where
 len:l.length<=5
 all:∀ k (h:k<l.length),Fw1 l[k]
theorem Fw1.sml {m:MdlD} (h:Fw1 m):Sml m :=
 ⟨by have:=h.few.vars;omega,by have:=h.few.evs;omega,by have:=h.few.regs;omega,by have:=h.few.vers;omega,by have:=h.few.trns;omega,fun x hx=>by have:=h.few.df x hx;omega,fun x hx=>by have:=h.few.tr x hx;omega⟩
theorem Fw.mem {l:List MdlD} (h:Fw l) {m:MdlD} (hm:m ∈ l):Fw1 m:=by
 obtain ⟨k,hk,rfl⟩:=List.getElem_of_mem hm
 exact h.all k hk
theorem few18_any (N:Nat) (l:List MdlD) (a:Option Addr) (c:Nat) (w:World) (hl:LibV N w (.slice a l.length c) l) (hN:N<=w.heap.size) (hll:l.length<=140737488355328) (hok:∀ m ∈ l,MdlOk m) :
   Calls Tryz.prog 5 #[.slice a l.length c] w fun e w'=>BoolSays (Fw l) e/\Bl w w':=by
 by_cases h5:l.length<=5
 . have d5:((l.length:Int)<=5):=by omega
   have HL:=hid fun (wx:World) (g:Bl w wx)=>hl.below (g.mono hN)
   have HOK:=hid hok
   clear hl hok
   go_enter Tryz.func5,Tryz.ntmps5
   go_wp2_with fail
   go_loopw [3] (fun i wr=>∃ k:Nat,k<=l.length/\i=.int .i64 k/\Bl w wr/\Hid (∀ j (h:j<l.length),j<k->Fw1 l[j])) (fun i _=>l.length - (intOf i).toNat)
   case atStart=>exact ⟨0,by omega,rfl,Below.refl _ _,hid fun j _ hj=>absurd hj (Nat.not_lt_zero _)⟩
   case round =>
    obtain ⟨wo,rfl⟩:=ex1 wr
    obtain ⟨k,hk,rfl,hb,HZ⟩:=hrel
    have HB:=hid hb
    by_cases hlt:k<l.length
    . have hkI:(k:Int)<(l.length:Int):=by omega
      have hk0:(0:Int)<=(k:Int):=by omega
      obtain ⟨m,hm⟩:=ex2 (l[k])
      obtain ⟨b1,o1,e1,hb1,pm,hmo,r0,r1,r2,r3,r4,r5⟩:=(HL.o wo hb).get hlt
      rw [hm] at hmo r0 r1 r2 r3 r4 r5
      have hmk:=HOK.o _ (List.getElem_mem hlt)
      rw [hm] at hmk
      have HZ1:Hid (Fw1 m->∀ j (h:j<l.length),j<k+1->Fw1 l[j]):=hid fun hm1 j h hj=>by
        by_cases e:j=k
        . subst e;rw [hm];exact hm1
        . exact HZ.o j h (by omega)
      have HZ2:Hid (¬ Fw1 m->¬ Fw l):=hid fun hm1 hf=>hm1 (by have:=hf.all k hlt;rw [hm] at this;exact this)
      have HF:=hid (few_any m pm wo hmo hmk)
      unfold mdV at HF
      have q3:=hmk.regs
      have q4:=hmk.vers
      have q5:=hmk.trns
      subst e1
      clear hmo hmk hb hm hb1
      by_cases h1:m.regs.length<=15
      . have d1:((m.regs.length:Int)<=15):=by omega
        by_cases h2:m.vers.length<=20
        . have d2:((m.vers.length:Int)<=20):=by omega
          by_cases h3:m.trns.length<=20
          . have d3:((m.trns.length:Int)<=20):=by omega
            go_wp2_with ((with_reducible refine (HF.o).mono ?_);rintro e w' ⟨⟨b,rfl,hs⟩,hb9⟩;rcases b with _ | _)
            . have HN:=hid (HB.o.trans (hb9.mono HB.o.size))
              clear hb9 hs
              go_wp2_with fail
              go_ret
              exact ⟨⟨false,rfl,fun ht=>by cases ht⟩,HN.o⟩
            . have HN:=hid (HB.o.trans (hb9.mono HB.o.size))
              have HZ3:=hid (HZ1.o ⟨h1,h2,h3,hs rfl⟩)
              clear hb9 hs
              go_wp2_with fail
              go_roundw
              case rel=>exact ⟨k+1,by omega,by go_num,HN.o,HZ3⟩
              case measure=>simp [intOf] <;> omega
          . have d3:¬ ((m.trns.length:Int)<=20):=by omega
            go_wp2_with fail
            go_ret
            exact ⟨⟨false,rfl,fun ht=>by cases ht⟩,HB.o⟩
        . have d2:¬ ((m.vers.length:Int)<=20):=by omega
          go_wp2_with fail
          go_ret
          exact ⟨⟨false,rfl,fun ht=>by cases ht⟩,HB.o⟩
      . have d1:¬ ((m.regs.length:Int)<=15):=by omega
        go_wp2_with fail
        go_ret
        exact ⟨⟨false,rfl,fun ht=>by cases ht⟩,HB.o⟩
    . obtain rfl:k=l.length:=by omega
      go_wp2_with fail
      go_ret
      exact ⟨⟨true,rfl,fun _=>⟨h5,fun k hk=>HZ.o k hk hk⟩⟩,HB.o⟩
 . have d5:¬ ((l.length:Int)<=5):=by omega
   clear hl
   go_enter Tryz.func5,Tryz.ntmps5
   go_wp2_with fail
   go_ret
   exact ⟨⟨false,rfl,fun ht=>by cases ht⟩,Below.refl _ _⟩
end Go.Proofs
