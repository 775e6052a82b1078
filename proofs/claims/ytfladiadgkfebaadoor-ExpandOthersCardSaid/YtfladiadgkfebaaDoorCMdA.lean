/- Walks: when two models are the same. -/
import Derived.Test.YtfladiadgkfebaaDoorCLexAB
import Derived.Test.YtfladiadgkfebaaDoorCMdM
import Derived.Laws.StructEq
namespace Go.Proofs
open Go.RowKit Go.Lx Go.Md Go.Shelf

theorem eqS_beq (a b:ByteArray):(a.toList == b.toList)=eqS a b:=rfl
theorem neqAt_66:NeqAt Tryd.prog 66 (fun (x:VarD)=>.agg #[.string x.nm,.int .i64 x.ini]) eqVar:=by
 refine ⟨fun x y w=>?_,GuardAt.agg _ (by kernel_rfl)⟩
 have u3:=Tryd.underlying3
 have a3:=Tryd.isAgg3
 have z3:=Tryd.sizeOf3
 have u2:=Tryd.underlying2
 have a2:=Tryd.isAgg2
 have z2:=Tryd.sizeOf2
 have u9:=Tryd.underlying9
 have a9:=Tryd.isAgg9
 have z9:=Tryd.sizeOf9
 have hS:Tryd.prog.underlying 66=some (.struct (Tryd.prog.fieldsOf 66)):=by kernel_rfl
 have hp:Tryd.prog.stoodInHeld 66=false:=by kernel_rfl
 rw [run_neq_struct,show (10000:Nat)=9999+1 from rfl,run_equalIn_agg w 9999 66 _ _ hS hp]
 simp only [Program.fieldsOf,Tryd.underlying66]
 go_simp
 unfold eqVar
 rw [← eqS_beq]
 cases h1:(x.nm.toList == y.nm.toList) <;> cases h2:(x.ini == y.ini) <;> simp_all
theorem neqAt_46:NeqAt Tryd.prog 46 (fun (x:RegD)=>.agg #[.string x.nm,.int .i64 x.own]) eqReg:=by
 refine ⟨fun x y w=>?_,GuardAt.agg _ (by kernel_rfl)⟩
 have u3:=Tryd.underlying3
 have a3:=Tryd.isAgg3
 have z3:=Tryd.sizeOf3
 have u2:=Tryd.underlying2
 have a2:=Tryd.isAgg2
 have z2:=Tryd.sizeOf2
 have u9:=Tryd.underlying9
 have a9:=Tryd.isAgg9
 have z9:=Tryd.sizeOf9
 have hS:Tryd.prog.underlying 46=some (.struct (Tryd.prog.fieldsOf 46)):=by kernel_rfl
 have hp:Tryd.prog.stoodInHeld 46=false:=by kernel_rfl
 rw [run_neq_struct,show (10000:Nat)=9999+1 from rfl,run_equalIn_agg w 9999 46 _ _ hS hp]
 simp only [Program.fieldsOf,Tryd.underlying46]
 go_simp
 unfold eqReg
 rw [← eqS_beq]
 cases h1:(x.nm.toList == y.nm.toList) <;> cases h2:(x.own == y.own) <;> simp_all
set_option maxHeartbeats 1000000 in
theorem slEq_66 {Q Q':BP} (a1 a2:Option Addr) (c1 c2:Nat) (l1 l2:List VarD) (w:World) (h1:Sl Q 2 VarE w (.slice a1 l1.length c1) l1) (h2:Sl Q' 2 VarE w (.slice a2 l2.length c2) l2) (hl:l1.length≤140737488355328) :
   Calls Tryd.prog 26 #[.slice a1 l1.length c1,.slice a2 l2.length c2] w fun e w'=>e=.returned (.bool (eqL eqVar l1 l2))∧Below w.heap.size w w':=by
 by_cases hn:l1.length=l2.length
 · have hnI:(l1.length:Int)=(l2.length:Int):=by omega
   have H1:=Lib.hid h1
   have H2:=Lib.hid h2
   have HN:=Lib.hid hn
   have hgd':=(neqAt_66).2
   have hne':=(neqAt_66).1
   simp only at hne' hgd'
   unfold GuardAt at hgd'
   clear h1 h2 hn
   go_enter Tryd.func26,Tryd.ntmps26
   go_wp2_with fail
   go_loopw [13] (fun i wr=>∃ k:Nat,k≤l1.length∧i=.int .i64 k∧Below w.heap.size w wr∧Hid (eqL eqVar l1 l2=eqL eqVar (l1.drop k) (l2.drop k))) (fun i _=>l1.length - (intOf i).toNat)
   case atStart=>exact ⟨0,by omega,rfl,Below.refl _ _,(show Hid _ from rfl)⟩
   case round =>
    obtain ⟨k,hk,rfl,hg,HE⟩:=hrel
    by_cases hlt:k<l1.length
    · have hltI:(k:Int)<(l1.length:Int):=by omega
      have hi0:(0:Int)≤(k:Int):=by omega
      have hlt2:k<l2.length:=by have:=HN.out;omega
      have hltI2:(k:Int)<(l2.length:Int):=by omega
      obtain ⟨b1,o1,ha1,hb1,hc1⟩:=H1.out.get hlt
      obtain ⟨b2,o2,ha2,hb2,hc2⟩:=H2.out.get hlt2
      have hd:=Lib.hid (eqL_drop (f:=eqVar) hlt hlt2)
      obtain ⟨x,hx⟩:∃ x,x=l1[k]:=⟨_,rfl⟩
      obtain ⟨y,hy⟩:∃ y,y=l2[k]:=⟨_,rfl⟩
      rw [← hx] at hc1 hd
      rw [← hy] at hc2 hd
      subst ha1 ha2
      have c10:=(hg.cell (p:=⟨b1,o1+k * 2,none⟩) hb1).trans hc1.1
      have c11:=(hg.cell (p:=⟨b1,o1+k * 2+1,none⟩) hb1).trans hc1.2
      have c20:=(hg.cell (p:=⟨b2,o2+k * 2,none⟩) hb2).trans hc2.1
      have c21:=(hg.cell (p:=⟨b2,o2+k * 2+1,none⟩) hb2).trans hc2.2
      clear hc1 hc2 hx hy
      cases hxy:eqVar x y with
      | true =>
       go_wp2_with fail
       go_quiet (fail)
       go_wp2_with fail
       go_roundw
       case rel=>exact ⟨k+1,by omega,by go_num,below_drewN hg _,(show Hid _ from by unfold Hid;rw [HE.out,hd.out,hxy,Bool.true_and])⟩
       case measure=>simp [intOf] <;> omega
      | false =>
       go_wp2_with fail
       go_quiet (fail)
       go_wp2_with fail
       go_ret
       exact ⟨ret_bool (by rw [HE.out,hd.out,hxy,Bool.false_and]),below_drewN hg _⟩
    · go_wp2_with fail
      go_ret
      exact ⟨ret_bool (by rw [HE.out,List.drop_eq_nil_of_le (by omega),List.drop_eq_nil_of_le (by have:=HN.out;omega)];rfl),hg⟩
 · have hnI:¬ (l1.length:Int)=(l2.length:Int):=by omega
   have HX:=Lib.hid (Bool.eq_false_iff.2 (fun h=>hn (eqL_len h)):eqL eqVar l1 l2=false)
   clear hn h1 h2
   go_enter Tryd.func26,Tryd.ntmps26
   go_wp2_with fail
   go_ret
   exact ⟨ret_bool (by rw [HX.out]),Below.refl _ _⟩
set_option maxHeartbeats 1000000 in
theorem slEq_46 {Q Q':BP} (a1 a2:Option Addr) (c1 c2:Nat) (l1 l2:List RegD) (w:World) (h1:Sl Q 2 RegE w (.slice a1 l1.length c1) l1) (h2:Sl Q' 2 RegE w (.slice a2 l2.length c2) l2) (hl:l1.length≤140737488355328) :
   Calls Tryd.prog 27 #[.slice a1 l1.length c1,.slice a2 l2.length c2] w fun e w'=>e=.returned (.bool (eqL eqReg l1 l2))∧Below w.heap.size w w':=by
 by_cases hn:l1.length=l2.length
 · have hnI:(l1.length:Int)=(l2.length:Int):=by omega
   have H1:=Lib.hid h1
   have H2:=Lib.hid h2
   have HN:=Lib.hid hn
   have hgd':=(neqAt_46).2
   have hne':=(neqAt_46).1
   simp only at hne' hgd'
   unfold GuardAt at hgd'
   clear h1 h2 hn
   go_enter Tryd.func27,Tryd.ntmps27
   go_wp2_with fail
   go_loopw [13] (fun i wr=>∃ k:Nat,k≤l1.length∧i=.int .i64 k∧Below w.heap.size w wr∧Hid (eqL eqReg l1 l2=eqL eqReg (l1.drop k) (l2.drop k))) (fun i _=>l1.length - (intOf i).toNat)
   case atStart=>exact ⟨0,by omega,rfl,Below.refl _ _,(show Hid _ from rfl)⟩
   case round =>
    obtain ⟨k,hk,rfl,hg,HE⟩:=hrel
    by_cases hlt:k<l1.length
    · have hltI:(k:Int)<(l1.length:Int):=by omega
      have hi0:(0:Int)≤(k:Int):=by omega
      have hlt2:k<l2.length:=by have:=HN.out;omega
      have hltI2:(k:Int)<(l2.length:Int):=by omega
      obtain ⟨b1,o1,ha1,hb1,hc1⟩:=H1.out.get hlt
      obtain ⟨b2,o2,ha2,hb2,hc2⟩:=H2.out.get hlt2
      have hd:=Lib.hid (eqL_drop (f:=eqReg) hlt hlt2)
      obtain ⟨x,hx⟩:∃ x,x=l1[k]:=⟨_,rfl⟩
      obtain ⟨y,hy⟩:∃ y,y=l2[k]:=⟨_,rfl⟩
      rw [← hx] at hc1 hd
      rw [← hy] at hc2 hd
      subst ha1 ha2
      have c10:=(hg.cell (p:=⟨b1,o1+k * 2,none⟩) hb1).trans hc1.1
      have c11:=(hg.cell (p:=⟨b1,o1+k * 2+1,none⟩) hb1).trans hc1.2
      have c20:=(hg.cell (p:=⟨b2,o2+k * 2,none⟩) hb2).trans hc2.1
      have c21:=(hg.cell (p:=⟨b2,o2+k * 2+1,none⟩) hb2).trans hc2.2
      clear hc1 hc2 hx hy
      cases hxy:eqReg x y with
      | true =>
       go_wp2_with fail
       go_quiet (fail)
       go_wp2_with fail
       go_roundw
       case rel=>exact ⟨k+1,by omega,by go_num,below_drewN hg _,(show Hid _ from by unfold Hid;rw [HE.out,hd.out,hxy,Bool.true_and])⟩
       case measure=>simp [intOf] <;> omega
      | false =>
       go_wp2_with fail
       go_quiet (fail)
       go_wp2_with fail
       go_ret
       exact ⟨ret_bool (by rw [HE.out,hd.out,hxy,Bool.false_and]),below_drewN hg _⟩
    · go_wp2_with fail
      go_ret
      exact ⟨ret_bool (by rw [HE.out,List.drop_eq_nil_of_le (by omega),List.drop_eq_nil_of_le (by have:=HN.out;omega)];rfl),hg⟩
 · have hnI:¬ (l1.length:Int)=(l2.length:Int):=by omega
   have HX:=Lib.hid (Bool.eq_false_iff.2 (fun h=>hn (eqL_len h)):eqL eqReg l1 l2=false)
   clear hn h1 h2
   go_enter Tryd.func27,Tryd.ntmps27
   go_wp2_with fail
   go_ret
   exact ⟨ret_bool (by rw [HX.out]),Below.refl _ _⟩
set_option maxHeartbeats 1000000 in
theorem slEqS_any {Q Q':BP} (a1 a2:Option Addr) (c1 c2:Nat) (l1 l2:List ByteArray) (w:World) (h1:SlS Q w (.slice a1 l1.length c1) l1) (h2:SlS Q' w (.slice a2 l2.length c2) l2) (hl:l1.length≤140737488355328) :
   Calls Tryd.prog 24 #[.slice a1 l1.length c1,.slice a2 l2.length c2] w fun e w'=>e=.returned (.bool (eqL eqS l1 l2))∧Below w.heap.size w w':=by
 by_cases hn:l1.length=l2.length
 · have hnI:(l1.length:Int)=(l2.length:Int):=by omega
   have H1:=Lib.hid h1
   have H2:=Lib.hid h2
   have HN:=Lib.hid hn
   clear h1 h2 hn
   go_enter Tryd.func24,Tryd.ntmps24
   go_wp2_with fail
   go_loopw [13] (fun i wr=>∃ k:Nat,k≤l1.length∧i=.int .i64 k∧Below w.heap.size w wr∧Hid (eqL eqS l1 l2=eqL eqS (l1.drop k) (l2.drop k))) (fun i _=>l1.length - (intOf i).toNat)
   case atStart=>exact ⟨0,by omega,rfl,Below.refl _ _,(show Hid _ from rfl)⟩
   case round =>
    obtain ⟨k,hk,rfl,hg,HE⟩:=hrel
    by_cases hlt:k<l1.length
    · have hltI:(k:Int)<(l1.length:Int):=by omega
      have hi0:(0:Int)≤(k:Int):=by omega
      have hlt2:k<l2.length:=by have:=HN.out;omega
      have hltI2:(k:Int)<(l2.length:Int):=by omega
      obtain ⟨b1,o1,ha1,hb1,hc1⟩:=H1.out.get hlt
      obtain ⟨b2,o2,ha2,hb2,hc2⟩:=H2.out.get hlt2
      have hd:=Lib.hid (eqL_drop (f:=eqS) hlt hlt2)
      obtain ⟨x,hx⟩:∃ x,x=l1[k]:=⟨_,rfl⟩
      obtain ⟨y,hy⟩:∃ y,y=l2[k]:=⟨_,rfl⟩
      rw [← hx] at hc1 hd
      rw [← hy] at hc2 hd
      subst ha1 ha2
      have c10:=(hg.cell (p:=⟨b1,o1+k,none⟩) hb1).trans hc1
      have c20:=(hg.cell (p:=⟨b2,o2+k,none⟩) hb2).trans hc2
      clear hc1 hc2 hx hy
      cases hxy:eqS x y with
      | true =>
       have hxy':(x.toList == y.toList)=true:=hxy
       go_wp2_with fail
       go_quiet (fail)
       go_wp2_with fail
       go_roundw
       case rel=>exact ⟨k+1,by omega,by go_num,below_drewN hg _,(show Hid _ from by unfold Hid;rw [HE.out,hd.out,hxy,Bool.true_and])⟩
       case measure=>simp [intOf] <;> omega
      | false =>
       have hxy':(x.toList == y.toList)=false:=hxy
       go_wp2_with fail
       go_quiet (fail)
       go_wp2_with fail
       go_ret
       exact ⟨ret_bool (by rw [HE.out,hd.out,hxy,Bool.false_and]),below_drewN hg _⟩
    · go_wp2_with fail
      go_ret
      exact ⟨ret_bool (by rw [HE.out,List.drop_eq_nil_of_le (by omega),List.drop_eq_nil_of_le (by have:=HN.out;omega)];rfl),hg⟩
 · have hnI:¬ (l1.length:Int)=(l2.length:Int):=by omega
   have HX:=Lib.hid (Bool.eq_false_iff.2 (fun h=>hn (eqL_len h)):eqL eqS l1 l2=false)
   clear hn h1 h2
   go_enter Tryd.func24,Tryd.ntmps24
   go_wp2_with fail
   go_ret
   exact ⟨ret_bool (by rw [HX.out]),Below.refl _ _⟩
end Go.Proofs
