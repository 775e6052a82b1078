/- Walks: the document's answer for what lies in what: Kids, Points, Composite, Chain, Depth. -/
import Derived.Test.YtiimoclbmaggjaaGreatDoorIRyAB
namespace Go.Proofs
open Go.RowKit Go.Lx Go.Md Go.Shelf Go.BigFrame Go.Rgi
set_option linter.unusedVariables false
theorem pnt_ref (s:Int) (x:VerD):isPnt s x=(decide (0≤s) && x.ofv == s):=by
 unfold isPnt
 cases h:(x.ofv == s) with
 | false=>simp
 | true=>rw [beq_iff_eq] at h;rw [h]
theorem Mod.ofC {Q:Nat→BP} {w:World} {m:MdlD} {p:Ph} (h:Mod Q w m p) {k:Nat} (hk:k<m.vers.length):∃ b o,p.a4=some ⟨b,o,none⟩∧b<w.heap.size∧w.cell? ⟨b,o+k * 8+2,none⟩=some (.int .i64 m.vers[k].rg)∧w.cell? ⟨b,o+k * 8+3,none⟩=some (.int .i64 m.vers[k].ofv):=by
 obtain ⟨b,o,e,hb,_,_,h0,h1,h2,h3,_⟩:=h.vers.get hk
 exact ⟨b,o,e,hb,h2,h3⟩
set_option maxRecDepth 100000 in
set_option maxHeartbeats 2000000 in
theorem rkids16_any {Q:Nat→BP} (m:MdlD) (p:Ph) (s:Int) (w:World) (h:Mod Q w m p) (hrl:m.vers.length≤100000) :
   Calls Tryz.prog 82 #[ixV m p,.int .i64 s] w (RowP (kidsM m s) w):=by
 have HB:=Lib.hid (Mb.madeT h 93)
 have HV:=Lib.hid (fun wx (g:Mb m p w.heap.size w wx) (j:Nat) (hj:j<m.vers.length)=>g.mod.ofC hj)
 have hcap:=Lib.hid (fun h0=>h.vers.cap h0)
 obtain ⟨iI,hiI,zI0,zI1,zI2⟩:=info_parts info_Num
 have HL:Hid (kidsM m s=sel (isKid s) (m.vers.take m.vers.length)):=Lib.hid (by rw [List.take_length];rfl)
 have HT:=Lib.hid (fun (k:Nat) (h:k<m.vers.length)=>sel_take (isKid s) (l:=m.vers) h)
 have HZ:=Lib.hid (sel_take0 (isKid s) m.vers)
 have HN:=Lib.hid (fun k=>sel_len (isKid s) (m.vers.take k))
 unfold ixV mdV
 clear h
 go_enter Tryz.func82,Tryz.ntmps82
 go_wp2_with fail
 go_loopw [5,6] (fun o i wr=>∃ k:Nat,k≤m.vers.length∧i=.int .i64 k∧Mb m p w.heap.size w wr∧wr.ownsRow (w.heap.size+1) 3 1 o (sel (isKid s) (m.vers.take k)).length (nums (sel (isKid s) (m.vers.take k)))) (fun _ i _=>m.vers.length - (intOf i).toNat)
 case atStart=>exact ⟨0,by omega,rfl,HB.out,by rw [HZ.out];exact World.ownsRow_nil _ _ _ _⟩
 case round =>
  obtain ⟨wo,rfl⟩:∃ wo:World,wo=wr:=⟨_,rfl⟩
  obtain ⟨k,hk,rfl,hb,ho⟩:=hrel
  have HB5:=Lib.hid hb
  have HO:=Lib.hid ho
  clear hb HB HZ ho
  obtain ⟨x0,x1,x2,x3,x4,x5,_⟩:=HB5.out.box
  by_cases hlt:k<m.vers.length
  · have hI:(k:Int)<(m.vers.length:Int):=by omega
    have hI0:(0:Int)≤(k:Int):=by omega
    obtain ⟨b1,o1,ha1,hb1,r1,r2⟩:=HV.out wo HB5.out k hlt
    have hcp:=hcap.out (by omega)
    have hS:=HT.out k hlt
    obtain ⟨x,hx⟩:∃ x,x=m.vers[k]:=⟨_,rfl⟩
    rw [← hx] at hS r1 r2
    have hln:=HN.out k
    have hln2:(sel (isKid s) (m.vers.take k)).length≤k:=by rw [List.length_take] at hln;omega
    have hz5:w.heap.size+1≤wo.heap.size:=HB5.out.box.sl
    rw [ha1] at x4
    clear HV HT HN hx hln ha1
    cases hd0:decide (x.ofv<0) with
    | false =>
     have hS2:Hid (sel (isKid s) (m.vers.take (k+1))=sel (isKid s) (m.vers.take k)):=Lib.hid (by rw [hS];unfold isKid;rw [hd0];simp)
     clear hS hcap
     go_wp2_with fail
     go_roundw
     case rel=>exact ⟨k+1,by omega,by go_num,HB5.out,by rw [hS2.out];exact HO.out⟩
     case measure=>simp [intOf] <;> omega
    | true =>
     cases hd:(x.rg == s) with
     | false =>
      have hS2:Hid (sel (isKid s) (m.vers.take (k+1))=sel (isKid s) (m.vers.take k)):=Lib.hid (by rw [hS];unfold isKid;rw [hd0,hd];simp)
      clear hS hcap
      go_wp2_with fail
      go_roundw
      case rel=>exact ⟨k+1,by omega,by go_num,HB5.out,by rw [hS2.out];exact HO.out⟩
      case measure=>simp [intOf] <;> omega
     | true =>
      have hS2:Hid (sel (isKid s) (m.vers.take (k+1))=sel (isKid s) (m.vers.take k) ++ [(k:Int)]):=Lib.hid (by rw [hS];unfold isKid;rw [hd0,hd];simp)
      clear hS hcap
      go_wp2_with (at_builtin;refine wpList_append_row _ rfl _ _ 31 rfl 3 (w.heap.size+1) iI (.int .i64 0) Tryz.underlying31 hiI zI0 zI1 zI2 rfl _ (sel (isKid s) (m.vers.take k)) rfl (HO.out.alloc _) _ [(k:Int)] rfl (row1 _ _ _) (by simp;omega) (by simp;omega) ?_;intro v4 w4 hown4 hgrow4 hnxt4)
      have HB6:=Lib.hid (HB5.out.low (push_low hz5 HO.out hgrow4))
      go_roundw
      case rel=>exact ⟨k+1,by omega,by go_num,HB6.out,by rw [hS2.out];exact hown4⟩
      case measure=>simp [intOf] <;> omega
  · obtain rfl:k=m.vers.length:=by omega
    clear HV HT HN hcap
    rw [← HL.out] at HO
    go_wp2_with fail
    go_ret
    exact ⟨_,rfl,HO.out.mono (by omega),HB5.out.bel⟩
set_option maxRecDepth 100000 in
set_option maxHeartbeats 2000000 in
theorem rpoints16_any {Q:Nat→BP} (m:MdlD) (p:Ph) (s:Int) (w:World) (h:Mod Q w m p) (hrl:m.vers.length≤100000) :
   Calls Tryz.prog 83 #[ixV m p,.int .i64 s] w (RowP (pntM m s) w):=by
 have HB:=Lib.hid (Mb.madeT h 93)
 have HV:=Lib.hid (fun wx (g:Mb m p w.heap.size w wx) (j:Nat) (hj:j<m.vers.length)=>g.mod.ofC hj)
 have hcap:=Lib.hid (fun h0=>h.vers.cap h0)
 obtain ⟨iI,hiI,zI0,zI1,zI2⟩:=info_parts info_Num
 have HL:Hid (pntM m s=sel (isPnt s) (m.vers.take m.vers.length)):=Lib.hid (by rw [List.take_length];rfl)
 have HT:=Lib.hid (fun (k:Nat) (h:k<m.vers.length)=>sel_take (isPnt s) (l:=m.vers) h)
 have HZ:=Lib.hid (sel_take0 (isPnt s) m.vers)
 have HN:=Lib.hid (fun k=>sel_len (isPnt s) (m.vers.take k))
 unfold ixV mdV
 clear h
 cases hd0:decide (0≤s)
 all_goals
   go_enter Tryz.func83,Tryz.ntmps83
   go_wp2_with fail
   go_loopw [5,6] (fun o i wr=>∃ k:Nat,k≤m.vers.length∧i=.int .i64 k∧Mb m p w.heap.size w wr∧wr.ownsRow (w.heap.size+1) 3 1 o (sel (isPnt s) (m.vers.take k)).length (nums (sel (isPnt s) (m.vers.take k)))) (fun _ i _=>m.vers.length - (intOf i).toNat)
   case atStart=>exact ⟨0,by omega,rfl,HB.out,by rw [HZ.out];exact World.ownsRow_nil _ _ _ _⟩
   case round =>
    obtain ⟨wo,rfl⟩:∃ wo:World,wo=wr:=⟨_,rfl⟩
    obtain ⟨k,hk,rfl,hb,ho⟩:=hrel
    have HB5:=Lib.hid hb
    have HO:=Lib.hid ho
    clear hb HB HZ ho
    obtain ⟨x0,x1,x2,x3,x4,x5,_⟩:=HB5.out.box
    by_cases hlt:k<m.vers.length
    · have hI:(k:Int)<(m.vers.length:Int):=by omega
      have hI0:(0:Int)≤(k:Int):=by omega
      obtain ⟨b1,o1,ha1,hb1,r1,r2⟩:=HV.out wo HB5.out k hlt
      have hcp:=hcap.out (by omega)
      have hS:=HT.out k hlt
      obtain ⟨x,hx⟩:∃ x,x=m.vers[k]:=⟨_,rfl⟩
      rw [← hx] at hS r1 r2
      have hln:=HN.out k
      have hln2:(sel (isPnt s) (m.vers.take k)).length≤k:=by rw [List.length_take] at hln;omega
      have hz5:w.heap.size+1≤wo.heap.size:=HB5.out.box.sl
      rw [ha1] at x4
      clear HV HT HN hx hln ha1
      cases hd:(x.ofv == s)
      all_goals first
        | (have hS2:Hid (sel (isPnt s) (m.vers.take (k+1))=sel (isPnt s) (m.vers.take k)):=Lib.hid (by rw [hS,pnt_ref,hd0,hd];simp)
           clear hS hcap
           go_wp2_with fail
           go_roundw
           case rel=>exact ⟨k+1,by omega,by go_num,HB5.out,by rw [hS2.out];exact HO.out⟩
           case measure=>simp [intOf] <;> omega)
        | (have hS2:Hid (sel (isPnt s) (m.vers.take (k+1))=sel (isPnt s) (m.vers.take k) ++ [(k:Int)]):=Lib.hid (by rw [hS,pnt_ref,hd0,hd];simp)
           clear hS hcap
           go_wp2_with (at_builtin;refine wpList_append_row _ rfl _ _ 31 rfl 3 (w.heap.size+1) iI (.int .i64 0) Tryz.underlying31 hiI zI0 zI1 zI2 rfl _ (sel (isPnt s) (m.vers.take k)) rfl (HO.out.alloc _) _ [(k:Int)] rfl (row1 _ _ _) (by simp;omega) (by simp;omega) ?_;intro v4 w4 hown4 hgrow4 hnxt4)
           have HB6:=Lib.hid (HB5.out.low (push_low hz5 HO.out hgrow4))
           go_roundw
           case rel=>exact ⟨k+1,by omega,by go_num,HB6.out,by rw [hS2.out];exact hown4⟩
           case measure=>simp [intOf] <;> omega)
    · obtain rfl:k=m.vers.length:=by omega
      clear HV HT HN hcap
      rw [← HL.out] at HO
      go_wp2_with fail
      go_ret
      exact ⟨_,rfl,HO.out.mono (by omega),HB5.out.bel⟩
set_option maxRecDepth 100000 in
set_option maxHeartbeats 1000000 in
theorem rcomp16_any {Q:Nat→BP} (m:MdlD) (p:Ph) (v:Int) (w:World) (h:Mod Q w m p) (hvl:m.vers.length≤140737488355328) (hrl:m.regs.length≤100000) :
   Calls Tryz.prog 80 #[ixV m p,.int .i64 v] w fun e w'=>e=.returned (.bool (compM m v))∧Below w.heap.size w w':=by
 have HB:=Lib.hid (Mb.madeT h 93)
 have HC:=Lib.hid (fun wx (g:Mb m p w.heap.size w wx)=>rstate16_any m p v wx g.mod hvl)
 have HR:=Lib.hid (fun wx (g:Mb m p w.heap.size w wx)=>rregions16_any m p v wx g.mod hrl)
 have HE:Hid (compM m v=(Md.stM m v && decide (0<(ownM m v).length))):=Lib.hid (by
   unfold compM
   cases hs:Md.stM m v with
   | false=>simp
   | true=>obtain ⟨k,hk,rfl,_⟩:=st_in hs;rw [hasV_at hk];rfl)
 unfold ixV mdV at HC HR ⊢
 clear h
 cases hs:Md.stM m v with
 | false =>
  have hR:=Lib.hid (HE.out.trans (by rw [hs];rfl):compM m v=false)
  rw [hs] at HC
  clear hs HE
  go_enter Tryz.func80,Tryz.ntmps80
  go_wp2_with ((with_reducible refine (HC.out _ HB.out).mono ?_);rintro e w2 ⟨rfl,g2⟩)
  go_ret
  exact ⟨by rw [hR.out];rfl,(HB.out.below g2).bel⟩
 | true =>
  have hR:=Lib.hid (HE.out.trans (by rw [hs];rfl):compM m v=decide (0<(ownM m v).length))
  rw [hs] at HC
  clear hs HE
  go_enter Tryz.func80,Tryz.ntmps80
  go_wp2_with fail
  (with_reducible refine (HC.out _ HB.out).mono ?_)
  rintro e w2 ⟨rfl,g2⟩
  have HB2:=Lib.hid (HB.out.below g2)
  obtain ⟨x0,x1,x2,x3,x4,x5,_⟩:=HB2.out.box
  clear HC HB g2
  go_wp2_with fail
  (with_reducible refine (HR.out _ HB2.out).mono ?_)
  rintro e w3 ⟨v3,rfl,o3,g3⟩
  obtain ⟨a3,c3,rfl⟩:=ownsRow_slice o3
  have HB3:=Lib.hid (HB2.out.below g3)
  obtain ⟨n,hn⟩:∃ n,(ownM m v).length=n:=⟨_,rfl⟩
  rw [hn] at hR ⊢
  clear o3 g3 hn x0 x1 x2 x3 x4 x5
  cases hd:decide (0<n) with
  | true =>
   have hd':decide ((0:Int)<(n:Int))=true:=by simp at hd ⊢;omega
   rw [hd] at hR
   go_wp2_with fail
   go_ret
   exact ⟨by rw [hR.out];rfl,HB3.out.bel⟩
  | false =>
   have hd':decide ((0:Int)<(n:Int))=false:=by simp at hd ⊢;omega
   rw [hd] at hR
   go_wp2_with fail
   go_ret
   exact ⟨by rw [hR.out];rfl,HB3.out.bel⟩
end Go.Proofs
