/- Walks: 'Same', the program's and the reference's. -/
import Derived.Test.YtfladiadgkfebaaDoorCMdB
namespace Go.Proofs
open Go.RowKit Go.Lx Go.Md Go.Shelf

set_option maxRecDepth 100000 in
set_option maxHeartbeats 2000000 in
theorem eqfVer {Q Q' R R':BP} (a1 a2:Option Addr) (c1 c2:Nat) (l1 l2:List VerD) (w:World) (h1:Sl Q 8 (VerE R) w (.slice a1 l1.length c1) l1) (h2:Sl Q' 8 (VerE R') w (.slice a2 l2.length c2) l2) (hl:l1.length≤140737488355328) (hd:∀ x ∈ l1,x.df.length≤140737488355328) :
   Calls Tryd.prog 28 #[.slice a1 l1.length c1,.slice a2 l2.length c2,.func (.func 23) #[] #[]] w fun e w'=>e=.returned (.bool (eqL eqVer l1 l2))∧Below w.heap.size w w':=by
 by_cases hn:l1.length=l2.length
 · have hnI:(l1.length:Int)=(l2.length:Int):=by omega
   have H1:=Lib.hid h1
   have H2:=Lib.hid h2
   have HN:=Lib.hid hn
   have HD:=Lib.hid hd
   clear h1 h2 hn hd
   go_enter Tryd.func28,Tryd.ntmps28
   go_wp2_with fail
   go_loopw [17] (fun i wr=>∃ k:Nat,k≤l1.length∧i=.int .i64 k∧Below w.heap.size w wr∧Hid (eqL eqVer l1 l2=eqL eqVer (l1.drop k) (l2.drop k))) (fun i _=>l1.length - (intOf i).toNat)
   case atStart=>exact ⟨0,by omega,rfl,Below.refl _ _,(show Hid _ from rfl)⟩
   case round =>
    obtain ⟨wo,rfl⟩:∃ wo:World,wo=wr:=⟨_,rfl⟩
    obtain ⟨k,hk,rfl,hg,HE⟩:=hrel
    by_cases hlt:k<l1.length
    · have hltI:(k:Int)<(l1.length:Int):=by omega
      have hi0:(0:Int)≤(k:Int):=by omega
      have hlt2:k<l2.length:=by have:=HN.out;omega
      have hltI2:(k:Int)<(l2.length:Int):=by omega
      obtain ⟨b1,o1,ha1,hb1,dv1,hs1,hc1⟩:=H1.out.get hlt
      obtain ⟨b2,o2,ha2,hb2,dv2,hs2,hc2⟩:=H2.out.get hlt2
      have hdl:=HD.out _ (List.getElem_mem hlt)
      have hdr:=Lib.hid (eqL_drop (f:=eqVer) hlt hlt2)
      obtain ⟨x,hx⟩:∃ x,x=l1[k]:=⟨_,rfl⟩
      obtain ⟨y,hy⟩:∃ y,y=l2[k]:=⟨_,rfl⟩
      rw [← hx] at hc1 hdr hs1 hdl
      rw [← hy] at hc2 hdr hs2
      subst ha1 ha2
      obtain ⟨da1,dc1,rfl⟩:=hs1.len
      obtain ⟨da2,dc2,rfl⟩:=hs2.len
      have HC:=Lib.hid (fun wx (hb:Below w.heap.size w wx)=>sameVer_any x y da1 da2 dc1 dc2 wx (hs1.kept (Kept.of_below hb)) (hs2.kept (Kept.of_below hb)) hdl)
      obtain ⟨p0,p1,p2,p3,p4,p5,p6,p7⟩:=hc1
      obtain ⟨q0,q1,q2,q3,q4,q5,q6,q7⟩:=hc2
      have hcw:∀ {b o:Nat} {u:Value},b<w.heap.size→w.cell? ⟨b,o,none⟩=some u→wo.cell? ⟨b,o,none⟩=some u:=fun {b o u} hb h=>(hg.cell (p:=⟨b,o,none⟩) hb).trans h
      replace p0:=hcw hb1 p0
      replace p1:=hcw hb1 p1
      replace p2:=hcw hb1 p2
      replace p3:=hcw hb1 p3
      replace p4:=hcw hb1 p4
      replace p5:=hcw hb1 p5
      replace p6:=hcw hb1 p6
      replace p7:=hcw hb1 p7
      replace q0:=hcw hb2 q0
      replace q1:=hcw hb2 q1
      replace q2:=hcw hb2 q2
      replace q3:=hcw hb2 q3
      replace q4:=hcw hb2 q4
      replace q5:=hcw hb2 q5
      replace q6:=hcw hb2 q6
      replace q7:=hcw hb2 q7
      have hbo1:b1<wo.heap.size:=Nat.lt_of_lt_of_le hb1 hg.size
      have hbo2:b2<wo.heap.size:=Nat.lt_of_lt_of_le hb2 hg.size
      clear hx hy hs1 hs2 hcw
      cases hxy:eqVer x y with
      | true =>
       rw [hxy] at HC
       go_wp2_with fail
       refine (HC.out _ ((hg.alloc hg.size _).alloc (by have:=hg.size;simp;omega) _)).mono ?_
       rintro e w3 ⟨rfl,g3⟩
       go_wp2_with fail
       go_roundw
       case rel=>exact ⟨k+1,by omega,by go_num,hg.trans ((below_box2 g3).mono hg.size),(show Hid _ from by unfold Hid;rw [HE.out,hdr.out,hxy,Bool.true_and])⟩
       case measure=>simp [intOf] <;> omega
      | false =>
       rw [hxy] at HC
       go_wp2_with fail
       refine (HC.out _ ((hg.alloc hg.size _).alloc (by have:=hg.size;simp;omega) _)).mono ?_
       rintro e w3 ⟨rfl,g3⟩
       go_wp2_with fail
       go_ret
       exact ⟨ret_bool (by rw [HE.out,hdr.out,hxy,Bool.false_and]),hg.trans ((below_box2 g3).mono hg.size)⟩
    · go_wp2_with fail
      go_ret
      exact ⟨ret_bool (by rw [HE.out,List.drop_eq_nil_of_le (by omega),List.drop_eq_nil_of_le (by have:=HN.out;omega)];rfl),hg⟩
 · have hnI:¬ (l1.length:Int)=(l2.length:Int):=by omega
   have HX:=Lib.hid (Bool.eq_false_iff.2 (fun h=>hn (eqL_len h)):eqL eqVer l1 l2=false)
   clear hn h1 h2
   go_enter Tryd.func28,Tryd.ntmps28
   go_wp2_with fail
   go_ret
   exact ⟨ret_bool (by rw [HX.out]),Below.refl _ _⟩
set_option maxRecDepth 100000 in
set_option maxHeartbeats 2000000 in
theorem eqfTrn {Q Q' R R':BP} (a1 a2:Option Addr) (c1 c2:Nat) (l1 l2:List TrnD) (w:World) (h1:Sl Q 8 (TrnE R) w (.slice a1 l1.length c1) l1) (h2:Sl Q' 8 (TrnE R') w (.slice a2 l2.length c2) l2) (hl:l1.length≤140737488355328) (hd:∀ x ∈ l1,x.tr.length≤140737488355328) :
   Calls Tryd.prog 29 #[.slice a1 l1.length c1,.slice a2 l2.length c2,.func (.func 25) #[] #[]] w fun e w'=>e=.returned (.bool (eqL eqTrn l1 l2))∧Below w.heap.size w w':=by
 by_cases hn:l1.length=l2.length
 · have hnI:(l1.length:Int)=(l2.length:Int):=by omega
   have H1:=Lib.hid h1
   have H2:=Lib.hid h2
   have HN:=Lib.hid hn
   have HD:=Lib.hid hd
   clear h1 h2 hn hd
   go_enter Tryd.func29,Tryd.ntmps29
   go_wp2_with fail
   go_loopw [17] (fun i wr=>∃ k:Nat,k≤l1.length∧i=.int .i64 k∧Below w.heap.size w wr∧Hid (eqL eqTrn l1 l2=eqL eqTrn (l1.drop k) (l2.drop k))) (fun i _=>l1.length - (intOf i).toNat)
   case atStart=>exact ⟨0,by omega,rfl,Below.refl _ _,(show Hid _ from rfl)⟩
   case round =>
    obtain ⟨wo,rfl⟩:∃ wo:World,wo=wr:=⟨_,rfl⟩
    obtain ⟨k,hk,rfl,hg,HE⟩:=hrel
    by_cases hlt:k<l1.length
    · have hltI:(k:Int)<(l1.length:Int):=by omega
      have hi0:(0:Int)≤(k:Int):=by omega
      have hlt2:k<l2.length:=by have:=HN.out;omega
      have hltI2:(k:Int)<(l2.length:Int):=by omega
      obtain ⟨b1,o1,ha1,hb1,dv1,hs1,hc1⟩:=H1.out.get hlt
      obtain ⟨b2,o2,ha2,hb2,dv2,hs2,hc2⟩:=H2.out.get hlt2
      have hdl:=HD.out _ (List.getElem_mem hlt)
      have hdr:=Lib.hid (eqL_drop (f:=eqTrn) hlt hlt2)
      obtain ⟨x,hx⟩:∃ x,x=l1[k]:=⟨_,rfl⟩
      obtain ⟨y,hy⟩:∃ y,y=l2[k]:=⟨_,rfl⟩
      rw [← hx] at hc1 hdr hs1 hdl
      rw [← hy] at hc2 hdr hs2
      subst ha1 ha2
      obtain ⟨da1,dc1,rfl⟩:=hs1.len
      obtain ⟨da2,dc2,rfl⟩:=hs2.len
      have HC:=Lib.hid (fun wx (hb:Below w.heap.size w wx)=>sameTrn_any x y da1 da2 dc1 dc2 wx (hs1.kept (Kept.of_below hb)) (hs2.kept (Kept.of_below hb)) hdl)
      obtain ⟨p0,p1,p2,p3,p4,p5,p6,p7⟩:=hc1
      obtain ⟨q0,q1,q2,q3,q4,q5,q6,q7⟩:=hc2
      have hcw:∀ {b o:Nat} {u:Value},b<w.heap.size→w.cell? ⟨b,o,none⟩=some u→wo.cell? ⟨b,o,none⟩=some u:=fun {b o u} hb h=>(hg.cell (p:=⟨b,o,none⟩) hb).trans h
      replace p0:=hcw hb1 p0
      replace p1:=hcw hb1 p1
      replace p2:=hcw hb1 p2
      replace p3:=hcw hb1 p3
      replace p4:=hcw hb1 p4
      replace p5:=hcw hb1 p5
      replace p6:=hcw hb1 p6
      replace p7:=hcw hb1 p7
      replace q0:=hcw hb2 q0
      replace q1:=hcw hb2 q1
      replace q2:=hcw hb2 q2
      replace q3:=hcw hb2 q3
      replace q4:=hcw hb2 q4
      replace q5:=hcw hb2 q5
      replace q6:=hcw hb2 q6
      replace q7:=hcw hb2 q7
      have hbo1:b1<wo.heap.size:=Nat.lt_of_lt_of_le hb1 hg.size
      have hbo2:b2<wo.heap.size:=Nat.lt_of_lt_of_le hb2 hg.size
      clear hx hy hs1 hs2 hcw
      cases hxy:eqTrn x y with
      | true =>
       rw [hxy] at HC
       go_wp2_with fail
       refine (HC.out _ ((hg.alloc hg.size _).alloc (by have:=hg.size;simp;omega) _)).mono ?_
       rintro e w3 ⟨rfl,g3⟩
       go_wp2_with fail
       go_roundw
       case rel=>exact ⟨k+1,by omega,by go_num,hg.trans ((below_box2 g3).mono hg.size),(show Hid _ from by unfold Hid;rw [HE.out,hdr.out,hxy,Bool.true_and])⟩
       case measure=>simp [intOf] <;> omega
      | false =>
       rw [hxy] at HC
       go_wp2_with fail
       refine (HC.out _ ((hg.alloc hg.size _).alloc (by have:=hg.size;simp;omega) _)).mono ?_
       rintro e w3 ⟨rfl,g3⟩
       go_wp2_with fail
       go_ret
       exact ⟨ret_bool (by rw [HE.out,hdr.out,hxy,Bool.false_and]),hg.trans ((below_box2 g3).mono hg.size)⟩
    · go_wp2_with fail
      go_ret
      exact ⟨ret_bool (by rw [HE.out,List.drop_eq_nil_of_le (by omega),List.drop_eq_nil_of_le (by have:=HN.out;omega)];rfl),hg⟩
 · have hnI:¬ (l1.length:Int)=(l2.length:Int):=by omega
   have HX:=Lib.hid (Bool.eq_false_iff.2 (fun h=>hn (eqL_len h)):eqL eqTrn l1 l2=false)
   clear hn h1 h2
   go_enter Tryd.func29,Tryd.ntmps29
   go_wp2_with fail
   go_ret
   exact ⟨ret_bool (by rw [HX.out]),Below.refl _ _⟩
end Go.Proofs
