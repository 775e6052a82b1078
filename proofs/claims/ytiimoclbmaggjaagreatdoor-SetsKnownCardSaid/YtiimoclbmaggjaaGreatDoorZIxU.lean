/- Walks: 'up': an iterator over the states in which a vertex lies. -/
import Derived.Test.YtiimoclbmaggjaaGreatDoorZLexAB
import Derived.Test.YtiimoclbmaggjaaGreatDoorZGen
import Derived.Shelf.Abstract
import Derived.Shelf.RegionOpen
import Derived.OwnWalkIn
import Derived.TacticsInMore
import Derived.LoopNIn
import Derived.LoopIn
import Derived.Sort.LoopGhostIn
import Derived.Deep.RegionLaw
namespace Go.Proofs
open Go.RowKit Go.Lx Go.Shelf Go.Rfu
open Lib(hid)
open Go.Proofs.Tryz
set_option maxRecDepth 100000
set_option maxHeartbeats 0
set_option linter.unusedVariables false
attribute [local go_sem] Oper.semAt_some

theorem zb7 (xp:Option Addr) (v:Int) (w:World) :
   Calls prog 94 #[.pointer xp,.int .i64 v] w fun e w'=>e=.returned (.func (.func 170) #[] #[.pointer (some ⟨w.heap.size+1,0,none⟩),.pointer (some ⟨w.heap.size,0,none⟩)])/\(w.alloc (.cells #[.pointer xp] 45)).alloc (.cells #[.int .i64 v] 3)=w':=by
 go_enter func94,ntmps94;go_wp2_with fail;go_ret;exact ⟨rfl,rfl⟩
structure UpAt (cur:Nat->Int) (n Bv Bx B PB PO np pc:Nat) (W:World):Prop where
 x:W.cell? ⟨Bx,0,none⟩=some (.pointer (some ⟨B,0,none⟩))
 pl:W.cell? ⟨B,0,none⟩=some (.slice (some ⟨PB,PO,none⟩) np pc)
 lk:∀ k,k<n->∃ j:Nat,cur k=j/\j<np/\W.cell? ⟨PB,PO+j * 7,none⟩=some (.int .i64 (cur (k+1)))
 fv:W.frozen? ⟨Bv,0,none⟩=false
theorem zb8 (cur:Nat->Int) (n Bv Bx B PB PO np pc:Nat) (hend:cur n<0) (l:Nat) (J:Nat->World->Prop) (Jx:World->Prop) (W:World) (hU:∀ k W,J k W->UpAt cur n Bv Bx B PB PO np pc W)
   (hset:∀ k W u,J k W->J k (W.setCell ⟨Bv,0,none⟩ u)) (hdrew:∀ k W,J k W->J k W.drew)
   (hY:∀ k W1,k<n->J k W1->W1.cell? ⟨Bv,0,none⟩=some (.int .i64 (cur k))->YieldAt Fence.wide 7 prog l #[.int .i64 (cur k)] W1 fun e W'=>(e=.returned (.bool true)/\J (k+1) W'/\W'.cell? ⟨Bv,0,none⟩=some (.int .i64 (cur k)))\/(e=.returned (.bool false)/\Jx W'))
   (h0:J 0 W) (hv0:W.cell? ⟨Bv,0,none⟩=some (.int .i64 (cur 0))) :
   CallsIn Fence.wide 8 prog 170 (#[.func (.yield l) #[] #[]] ++ #[.pointer (some ⟨Bv,0,none⟩),.pointer (some ⟨Bx,0,none⟩)]) W fun e W'=>(∃ v,e=.returned v)/\(J n W'\/Jx W'):=by
 refine callsIn_of_wp func170 rfl trivial ?_ rfl;simp only [ntmps170,List.size_toArray,List.length_cons,List.length_nil,Nat.reduceAdd,Nat.reduceSub,Array.replicate_succ,Array.replicate_zero,List.push_toArray,List.append_toArray,List.nil_append,List.cons_append]
 gi_wp2
 gi_loopg [4] n (fun g v wr=>∃ k,k<=n/\g=n - k/\J k wr/\wr.cell? ⟨Bv,0,none⟩=some (.int .i64 (cur k)))
 case atStart=>exact ⟨0,by omega,by omega,h0,hv0⟩
 case round =>
  obtain ⟨k,hk,hg,hj,hc⟩:=hrel;have hu:=hU k wr hj
  by_cases hkn:k<n
  . obtain ⟨j,hcj,hjn,hlk⟩:=hu.lk k hkn
    have hpos:0<=cur k:=by omega
    obtain ⟨fn,tmps,assign,body,hy,hR⟩:=hY k wr hkn hj hc;rw [hcj] at hc hy hpos
    gi_wp2
    refine hR.mono ?_;rintro e W3 (⟨rfl,hJ3,hv3⟩ | ⟨rfl,hx3⟩)
    . have hu3:=hU (k+1) W3 hJ3
      obtain ⟨j3,hc3,hj3,hl3⟩:=hu3.lk k hkn;obtain rfl:j3=j:=by omega
      rw [hcj] at hv3;have hx:=hu3.x;have hpl:=hu3.pl;have hf3:=hu3.fv;have hjI:(j3:Int)<(np:Int):=by omega
      have hUU:=hid hu3;clear hu hu3 hy hR hlk hc
      gi_wp2
      refine wpIn_wide.2 ?_
      go_region_law (fail)
      all_goals
        go_wp2_with fail
        gi_roundg (n - (k+1))
        case measure=>omega
        case rel=>exact ⟨k+1,by omega,rfl,hdrew _ _ (hset _ _ _ hJ3),World.cell?_setCell_same _ _ _ hv3⟩
    . gi_wp2
      go_end0
      exact ⟨⟨_,rfl⟩,.inr hx3⟩
  . obtain rfl:k=n:=by omega
    have hneg:¬ (0<=cur k):=by omega
    generalize cur k=ck at hc hneg
    gi_wp2
    refine ⟨fun _ h=>(by cases h),?_⟩
    gi_wp2
    go_end0
    exact ⟨⟨_,rfl⟩,.inl hj⟩
end Go.Proofs
