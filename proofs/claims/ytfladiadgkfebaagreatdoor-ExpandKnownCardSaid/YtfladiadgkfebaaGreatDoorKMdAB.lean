/- Walks: when two models are the same. -/
import Derived.Test.YtfladiadgkfebaaGreatDoorKLexAB
import Derived.Test.YtfladiadgkfebaaGreatDoorKMdM
import Derived.Laws.StructEq
import Derived.Shelf.SlicesE.Equal
namespace Go.Proofs
open Go.RowKit Go.Lx Go.Md Go.Shelf
open Lib(hid)
set_option maxRecDepth 100000
set_option maxHeartbeats 0
theorem eqS_beq (a b:ByteArray):(a.toList == b.toList)=eqS a b:=rfl
theorem neqAt_89:NeqAt Tryz.prog 89 (fun (x:VarD)=>.agg #[.string x.nm,.int .i64 x.ini]) eqVar:=by
 refine ⟨fun x y w=>?_,GuardAt.agg _ (by kernel_rfl)⟩
 have u3:=Tryz.underlying3
 have a3:=Tryz.isAgg3
 have z3:=Tryz.sizeOf3
 have u2:=Tryz.underlying2
 have a2:=Tryz.isAgg2
 have z2:=Tryz.sizeOf2
 have u9:=Tryz.underlying9
 have a9:=Tryz.isAgg9
 have z9:=Tryz.sizeOf9
 have hS:Tryz.prog.underlying 89=some (.struct (Tryz.prog.fieldsOf 89)):=by kernel_rfl
 have hp:Tryz.prog.stoodInHeld 89=false:=by kernel_rfl
 rw [run_neq_struct,show (10000:Nat)=9999+1 from rfl,run_equalIn_agg w 9999 89 _ _ hS hp]
 simp only [Program.fieldsOf,Tryz.underlying89]
 go_simp
 unfold eqVar
 rw [<- eqS_beq]
 cases h1:(x.nm.toList == y.nm.toList) <;> cases h2:(x.ini == y.ini) <;> simp_all
theorem neqAt_57:NeqAt Tryz.prog 57 (fun (x:RegD)=>.agg #[.string x.nm,.int .i64 x.own]) eqReg:=by
 refine ⟨fun x y w=>?_,GuardAt.agg _ (by kernel_rfl)⟩
 have u3:=Tryz.underlying3
 have a3:=Tryz.isAgg3
 have z3:=Tryz.sizeOf3
 have u2:=Tryz.underlying2
 have a2:=Tryz.isAgg2
 have z2:=Tryz.sizeOf2
 have u9:=Tryz.underlying9
 have a9:=Tryz.isAgg9
 have z9:=Tryz.sizeOf9
 have hS:Tryz.prog.underlying 57=some (.struct (Tryz.prog.fieldsOf 57)):=by kernel_rfl
 have hp:Tryz.prog.stoodInHeld 57=false:=by kernel_rfl
 rw [run_neq_struct,show (10000:Nat)=9999+1 from rfl,run_equalIn_agg w 9999 57 _ _ hS hp]
 simp only [Program.fieldsOf,Tryz.underlying57]
 go_simp
 unfold eqReg
 rw [<- eqS_beq]
 cases h1:(x.nm.toList == y.nm.toList) <;> cases h2:(x.own == y.own) <;> simp_all
theorem neqAt_70:NeqAt Tryz.prog 70 (fun (x:VarD)=>.agg #[.string x.nm,.int .i64 x.ini]) eqVar:=by
 refine ⟨fun x y w=>?_,GuardAt.agg _ (by kernel_rfl)⟩
 have u3:=Tryz.underlying3
 have a3:=Tryz.isAgg3
 have z3:=Tryz.sizeOf3
 have u2:=Tryz.underlying2
 have a2:=Tryz.isAgg2
 have z2:=Tryz.sizeOf2
 have u9:=Tryz.underlying9
 have a9:=Tryz.isAgg9
 have z9:=Tryz.sizeOf9
 have hS:Tryz.prog.underlying 70=some (.struct (Tryz.prog.fieldsOf 70)):=by kernel_rfl
 have hp:Tryz.prog.stoodInHeld 70=false:=by kernel_rfl
 rw [run_neq_struct,show (10000:Nat)=9999+1 from rfl,run_equalIn_agg w 9999 70 _ _ hS hp]
 simp only [Program.fieldsOf,Tryz.underlying70]
 go_simp
 unfold eqVar
 rw [<- eqS_beq]
 cases h1:(x.nm.toList == y.nm.toList) <;> cases h2:(x.ini == y.ini) <;> simp_all
theorem neqAt_84:NeqAt Tryz.prog 84 (fun (x:RegD)=>.agg #[.string x.nm,.int .i64 x.own]) eqReg:=by
 refine ⟨fun x y w=>?_,GuardAt.agg _ (by kernel_rfl)⟩
 have u3:=Tryz.underlying3
 have a3:=Tryz.isAgg3
 have z3:=Tryz.sizeOf3
 have u2:=Tryz.underlying2
 have a2:=Tryz.isAgg2
 have z2:=Tryz.sizeOf2
 have u9:=Tryz.underlying9
 have a9:=Tryz.isAgg9
 have z9:=Tryz.sizeOf9
 have hS:Tryz.prog.underlying 84=some (.struct (Tryz.prog.fieldsOf 84)):=by kernel_rfl
 have hp:Tryz.prog.stoodInHeld 84=false:=by kernel_rfl
 rw [run_neq_struct,show (10000:Nat)=9999+1 from rfl,run_equalIn_agg w 9999 84 _ _ hS hp]
 simp only [Program.fieldsOf,Tryz.underlying84]
 go_simp
 unfold eqReg
 rw [<- eqS_beq]
 cases h1:(x.nm.toList == y.nm.toList) <;> cases h2:(x.own == y.own) <;> simp_all
theorem slEq_89 {Q Q':BP} (a1 a2:Option Addr) (c1 c2:Nat) (l1 l2:List VarD) (w:World) (h1:Sl Q 2 VarE w (.slice a1 l1.length c1) l1) (h2:Sl Q' 2 VarE w (.slice a2 l2.length c2) l2) (hl:l1.length<=140737488355328) :
   Calls Tryz.prog 70 #[.slice a1 l1.length c1,.slice a2 l2.length c2] w fun e w'=>e=.returned (.bool (eqL eqVar l1 l2))/\Bl w w':=by
 by_cases hn:l1.length=l2.length
 . have hnI:(l1.length:Int)=(l2.length:Int):=by omega
   have H1:=hid h1
   have H2:=hid h2
   have HN:=hid hn
   have hgd':=(neqAt_89).2
   have hne':=(neqAt_89).1
   simp only at hne' hgd'
   unfold GuardAt at hgd'
   clear h1 h2 hn
   go_enter Tryz.func70,Tryz.ntmps70
   go_wp2_with fail
   go_loopw [13] (fun i wr=>∃ k:Nat,k<=l1.length/\i=.int .i64 k/\Bl w wr/\Hid (eqL eqVar l1 l2=eqL eqVar (l1.drop k) (l2.drop k))) (fun i _=>l1.length - (intOf i).toNat)
   case atStart=>exact ⟨0,by omega,rfl,Below.refl _ _,(show Hid _ from rfl)⟩
   case round =>
    obtain ⟨k,hk,rfl,hg,HE⟩:=hrel
    by_cases hlt:k<l1.length
    . have hltI:(k:Int)<(l1.length:Int):=by omega
      have hi0:(0:Int)<=(k:Int):=by omega
      have hlt2:k<l2.length:=by have:=HN.o;omega
      have hltI2:(k:Int)<(l2.length:Int):=by omega
      obtain ⟨b1,o1,ha1,hb1,hc1⟩:=H1.o.get hlt
      obtain ⟨b2,o2,ha2,hb2,hc2⟩:=H2.o.get hlt2
      have hd:=hid (eqL_drop (f:=eqVar) hlt hlt2)
      obtain ⟨x,hx⟩:∃ x,x=l1[k]:=⟨_,rfl⟩
      obtain ⟨y,hy⟩:∃ y,y=l2[k]:=⟨_,rfl⟩
      rw [<- hx] at hc1 hd
      rw [<- hy] at hc2 hd
      subst ha1 ha2
      have c10:=(hg.cell (p:=⟨b1,o1+k * 2,none⟩) hb1).trans hc1.1
      have c11:=(hg.cell (p:=⟨b1,o1+k * 2+1,none⟩) hb1).trans hc1.2
      have c20:=(hg.cell (p:=⟨b2,o2+k * 2,none⟩) hb2).trans hc2.1
      have c21:=(hg.cell (p:=⟨b2,o2+k * 2+1,none⟩) hb2).trans hc2.2
      clear hc1 hc2 hx hy
      cases hxy:eqVar x y with
      | true =>
       go_wp2_with fail
       go_quiet (fail)
       go_wp2_with fail
       go_roundw
       case rel=>exact ⟨k+1,by omega,by go_num,below_drewN hg _,(show Hid _ from by unfold Hid;rw [HE.o,hd.o,hxy,Bool.true_and])⟩
       case measure=>simp [intOf] <;> omega
      | false =>
       go_wp2_with fail
       go_quiet (fail)
       go_wp2_with fail
       go_ret
       exact ⟨ret_bool (by rw [HE.o,hd.o,hxy,Bool.false_and]),below_drewN hg _⟩
    . go_wp2_with fail
      go_ret
      exact ⟨ret_bool (by rw [HE.o,List.drop_eq_nil_of_le (by omega),List.drop_eq_nil_of_le (by have:=HN.o;omega)];rfl),hg⟩
 . have hnI:¬ (l1.length:Int)=(l2.length:Int):=by omega
   have HX:=hid (Bool.eq_false_iff.2 (fun h=>hn (eqL_len h)):eqL eqVar l1 l2=false)
   clear hn h1 h2
   go_enter Tryz.func70,Tryz.ntmps70
   go_wp2_with fail
   go_ret
   exact ⟨ret_bool (by rw [HX.o]),Below.refl _ _⟩
theorem slEq_57 {Q Q':BP} (a1 a2:Option Addr) (c1 c2:Nat) (l1 l2:List RegD) (w:World) (h1:Sl Q 2 RegE w (.slice a1 l1.length c1) l1) (h2:Sl Q' 2 RegE w (.slice a2 l2.length c2) l2) (hl:l1.length<=140737488355328) :
   Calls Tryz.prog 71 #[.slice a1 l1.length c1,.slice a2 l2.length c2] w fun e w'=>e=.returned (.bool (eqL eqReg l1 l2))/\Bl w w':=by
 by_cases hn:l1.length=l2.length
 . have hnI:(l1.length:Int)=(l2.length:Int):=by omega
   have H1:=hid h1
   have H2:=hid h2
   have HN:=hid hn
   have hgd':=(neqAt_57).2
   have hne':=(neqAt_57).1
   simp only at hne' hgd'
   unfold GuardAt at hgd'
   clear h1 h2 hn
   go_enter Tryz.func71,Tryz.ntmps71
   go_wp2_with fail
   go_loopw [13] (fun i wr=>∃ k:Nat,k<=l1.length/\i=.int .i64 k/\Bl w wr/\Hid (eqL eqReg l1 l2=eqL eqReg (l1.drop k) (l2.drop k))) (fun i _=>l1.length - (intOf i).toNat)
   case atStart=>exact ⟨0,by omega,rfl,Below.refl _ _,(show Hid _ from rfl)⟩
   case round =>
    obtain ⟨k,hk,rfl,hg,HE⟩:=hrel
    by_cases hlt:k<l1.length
    . have hltI:(k:Int)<(l1.length:Int):=by omega
      have hi0:(0:Int)<=(k:Int):=by omega
      have hlt2:k<l2.length:=by have:=HN.o;omega
      have hltI2:(k:Int)<(l2.length:Int):=by omega
      obtain ⟨b1,o1,ha1,hb1,hc1⟩:=H1.o.get hlt
      obtain ⟨b2,o2,ha2,hb2,hc2⟩:=H2.o.get hlt2
      have hd:=hid (eqL_drop (f:=eqReg) hlt hlt2)
      obtain ⟨x,hx⟩:∃ x,x=l1[k]:=⟨_,rfl⟩
      obtain ⟨y,hy⟩:∃ y,y=l2[k]:=⟨_,rfl⟩
      rw [<- hx] at hc1 hd
      rw [<- hy] at hc2 hd
      subst ha1 ha2
      have c10:=(hg.cell (p:=⟨b1,o1+k * 2,none⟩) hb1).trans hc1.1
      have c11:=(hg.cell (p:=⟨b1,o1+k * 2+1,none⟩) hb1).trans hc1.2
      have c20:=(hg.cell (p:=⟨b2,o2+k * 2,none⟩) hb2).trans hc2.1
      have c21:=(hg.cell (p:=⟨b2,o2+k * 2+1,none⟩) hb2).trans hc2.2
      clear hc1 hc2 hx hy
      cases hxy:eqReg x y with
      | true =>
       go_wp2_with fail
       go_quiet (fail)
       go_wp2_with fail
       go_roundw
       case rel=>exact ⟨k+1,by omega,by go_num,below_drewN hg _,(show Hid _ from by unfold Hid;rw [HE.o,hd.o,hxy,Bool.true_and])⟩
       case measure=>simp [intOf] <;> omega
      | false =>
       go_wp2_with fail
       go_quiet (fail)
       go_wp2_with fail
       go_ret
       exact ⟨ret_bool (by rw [HE.o,hd.o,hxy,Bool.false_and]),below_drewN hg _⟩
    . go_wp2_with fail
      go_ret
      exact ⟨ret_bool (by rw [HE.o,List.drop_eq_nil_of_le (by omega),List.drop_eq_nil_of_le (by have:=HN.o;omega)];rfl),hg⟩
 . have hnI:¬ (l1.length:Int)=(l2.length:Int):=by omega
   have HX:=hid (Bool.eq_false_iff.2 (fun h=>hn (eqL_len h)):eqL eqReg l1 l2=false)
   clear hn h1 h2
   go_enter Tryz.func71,Tryz.ntmps71
   go_wp2_with fail
   go_ret
   exact ⟨ret_bool (by rw [HX.o]),Below.refl _ _⟩
theorem texts_any {Q Q':BP} (a1 a2:Option Addr) (c1 c2:Nat) (l1 l2:List ByteArray) (w:World) (h1:SlS Q w (.slice a1 l1.length c1) l1) (h2:SlS Q' w (.slice a2 l2.length c2) l2) (hl:l1.length<=140737488355328) :
   Calls Tryz.prog 32 #[.slice a1 l1.length c1,.slice a2 l2.length c2] w fun e w'=>e=.returned (.bool (eqL eqS l1 l2))/\Bl w w':=by
 by_cases hn:l1.length=l2.length
 . have hnI:(l1.length:Int)=(l2.length:Int):=by omega
   have H1:=hid h1
   have H2:=hid h2
   have HN:=hid hn
   clear h1 h2 hn
   go_enter Tryz.func32,Tryz.ntmps32
   go_wp2_with fail
   go_loopw [5] (fun i wr=>∃ k:Nat,k<=l1.length/\i=.int .i64 k/\Bl w wr/\Hid (eqL eqS l1 l2=eqL eqS (l1.drop k) (l2.drop k))) (fun i _=>l1.length - (intOf i).toNat)
   case atStart=>exact ⟨0,by omega,rfl,Below.refl _ _,(show Hid _ from rfl)⟩
   case round =>
    obtain ⟨k,hk,rfl,hg,HE⟩:=hrel
    by_cases hlt:k<l1.length
    . have hltI:(k:Int)<(l1.length:Int):=by omega
      have hi0:(0:Int)<=(k:Int):=by omega
      have hlt2:k<l2.length:=by have:=HN.o;omega
      have hltI2:(k:Int)<(l2.length:Int):=by omega
      obtain ⟨b1,o1,ha1,hb1,hc1⟩:=H1.o.get hlt
      obtain ⟨b2,o2,ha2,hb2,hc2⟩:=H2.o.get hlt2
      have hd:=hid (eqL_drop (f:=eqS) hlt hlt2)
      obtain ⟨x,hx⟩:∃ x,x=l1[k]:=⟨_,rfl⟩
      obtain ⟨y,hy⟩:∃ y,y=l2[k]:=⟨_,rfl⟩
      rw [<- hx] at hc1 hd
      rw [<- hy] at hc2 hd
      subst ha1 ha2
      have c10:=(hg.cell (p:=⟨b1,o1+k,none⟩) hb1).trans hc1
      have c20:=(hg.cell (p:=⟨b2,o2+k,none⟩) hb2).trans hc2
      clear hc1 hc2 hx hy
      cases hxy:eqS x y with
      | true =>
       have hxy':(x.toList == y.toList)=true:=hxy
       go_wp2_with fail
       go_quiet (fail)
       go_wp2_with fail
       go_roundw
       case rel=>exact ⟨k+1,by omega,by go_num,below_drewN hg _,(show Hid _ from by unfold Hid;rw [HE.o,hd.o,hxy,Bool.true_and])⟩
       case measure=>simp [intOf] <;> omega
      | false =>
       have hxy':(x.toList == y.toList)=false:=hxy
       go_wp2_with fail
       go_quiet (fail)
       go_wp2_with fail
       go_ret
       exact ⟨ret_bool (by rw [HE.o,hd.o,hxy,Bool.false_and]),below_drewN hg _⟩
    . go_wp2_with fail
      go_ret
      exact ⟨ret_bool (by rw [HE.o,List.drop_eq_nil_of_le (by omega),List.drop_eq_nil_of_le (by have:=HN.o;omega)];rfl),hg⟩
 . have hnI:¬ (l1.length:Int)=(l2.length:Int):=by omega
   have HX:=hid (Bool.eq_false_iff.2 (fun h=>hn (eqL_len h)):eqL eqS l1 l2=false)
   clear hn h1 h2
   go_enter Tryz.func32,Tryz.ntmps32
   go_wp2_with fail
   go_ret
   exact ⟨ret_bool (by rw [HX.o]),Below.refl _ _⟩
theorem slEqS_any {Q Q':BP} (a1 a2:Option Addr) (c1 c2:Nat) (l1 l2:List ByteArray) (w:World) (h1:SlS Q w (.slice a1 l1.length c1) l1) (h2:SlS Q' w (.slice a2 l2.length c2) l2) (hl:l1.length<=140737488355328) :
   Calls Tryz.prog 68 #[.slice a1 l1.length c1,.slice a2 l2.length c2] w fun e w'=>e=.returned (.bool (eqL eqS l1 l2))/\Bl w w':=by
 by_cases hn:l1.length=l2.length
 . have hnI:(l1.length:Int)=(l2.length:Int):=by omega
   have H1:=hid h1
   have H2:=hid h2
   have HN:=hid hn
   clear h1 h2 hn
   go_enter Tryz.func68,Tryz.ntmps68
   go_wp2_with fail
   go_loopw [13] (fun i wr=>∃ k:Nat,k<=l1.length/\i=.int .i64 k/\Bl w wr/\Hid (eqL eqS l1 l2=eqL eqS (l1.drop k) (l2.drop k))) (fun i _=>l1.length - (intOf i).toNat)
   case atStart=>exact ⟨0,by omega,rfl,Below.refl _ _,(show Hid _ from rfl)⟩
   case round =>
    obtain ⟨k,hk,rfl,hg,HE⟩:=hrel
    by_cases hlt:k<l1.length
    . have hltI:(k:Int)<(l1.length:Int):=by omega
      have hi0:(0:Int)<=(k:Int):=by omega
      have hlt2:k<l2.length:=by have:=HN.o;omega
      have hltI2:(k:Int)<(l2.length:Int):=by omega
      obtain ⟨b1,o1,ha1,hb1,hc1⟩:=H1.o.get hlt
      obtain ⟨b2,o2,ha2,hb2,hc2⟩:=H2.o.get hlt2
      have hd:=hid (eqL_drop (f:=eqS) hlt hlt2)
      obtain ⟨x,hx⟩:∃ x,x=l1[k]:=⟨_,rfl⟩
      obtain ⟨y,hy⟩:∃ y,y=l2[k]:=⟨_,rfl⟩
      rw [<- hx] at hc1 hd
      rw [<- hy] at hc2 hd
      subst ha1 ha2
      have c10:=(hg.cell (p:=⟨b1,o1+k,none⟩) hb1).trans hc1
      have c20:=(hg.cell (p:=⟨b2,o2+k,none⟩) hb2).trans hc2
      clear hc1 hc2 hx hy
      cases hxy:eqS x y with
      | true =>
       have hxy':(x.toList == y.toList)=true:=hxy
       go_wp2_with fail
       go_quiet (fail)
       go_wp2_with fail
       go_roundw
       case rel=>exact ⟨k+1,by omega,by go_num,below_drewN hg _,(show Hid _ from by unfold Hid;rw [HE.o,hd.o,hxy,Bool.true_and])⟩
       case measure=>simp [intOf] <;> omega
      | false =>
       have hxy':(x.toList == y.toList)=false:=hxy
       go_wp2_with fail
       go_quiet (fail)
       go_wp2_with fail
       go_ret
       exact ⟨ret_bool (by rw [HE.o,hd.o,hxy,Bool.false_and]),below_drewN hg _⟩
    . go_wp2_with fail
      go_ret
      exact ⟨ret_bool (by rw [HE.o,List.drop_eq_nil_of_le (by omega),List.drop_eq_nil_of_le (by have:=HN.o;omega)];rfl),hg⟩
 . have hnI:¬ (l1.length:Int)=(l2.length:Int):=by omega
   have HX:=hid (Bool.eq_false_iff.2 (fun h=>hn (eqL_len h)):eqL eqS l1 l2=false)
   clear hn h1 h2
   go_enter Tryz.func68,Tryz.ntmps68
   go_wp2_with fail
   go_ret
   exact ⟨ret_bool (by rw [HX.o]),Below.refl _ _⟩
def verA (x:VerD) (a:Option Addr) (c:Nat):Value:=.agg #[.string x.nm,.int .u8 x.kd,.int .i64 x.rg,.int .i64 x.ofv,.string x.en,.string x.ex,.slice a x.df.length c,.string x.sb]
def trnA (x:TrnD) (a:Option Addr) (c:Nat):Value:=.agg #[.string x.nm,.int .i64 x.src,.int .i64 x.tgt,.slice a x.tr.length c,.int .i64 x.af,.string x.gd,.string x.ef,.int .u8 x.kd]
theorem box2_0 {w w3:World} {o1 o2:Obj} {k:Nat} {u:Value} (g:Below ((w.alloc o1).alloc o2).heap.size ((w.alloc o1).alloc o2) w3) (h:((w.alloc o1).alloc o2).cell? ⟨w.heap.size,k,none⟩=some u):w3.cell? ⟨w.heap.size,k,none⟩=some u :=
 (g.cell (p:=⟨w.heap.size,k,none⟩) (by simp <;> omega)).trans h
theorem box2_1 {w w3:World} {o1 o2:Obj} {k:Nat} {u:Value} (g:Below ((w.alloc o1).alloc o2).heap.size ((w.alloc o1).alloc o2) w3) (h:((w.alloc o1).alloc o2).cell? ⟨w.heap.size+1,k,none⟩=some u):w3.cell? ⟨w.heap.size+1,k,none⟩=some u :=
 (g.cell (p:=⟨w.heap.size+1,k,none⟩) (by simp <;> omega)).trans h
theorem below_box2 {w w3:World} {o1 o2:Obj} (g:Below ((w.alloc o1).alloc o2).heap.size ((w.alloc o1).alloc o2) w3):Bl w w3 :=
 (((Below.refl _ w).alloc (Nat.le_refl _) _).alloc (by simp) _).trans (g.mono (by simp <;> omega))
theorem sameVer_any {Q Q':BP} (x y:VerD) (a1 a2:Option Addr) (c1 c2:Nat) (w:World) (h1:SlS Q w (.slice a1 x.df.length c1) x.df) (h2:SlS Q' w (.slice a2 y.df.length c2) y.df) (hl:x.df.length<=140737488355328) :
   Calls Tryz.prog 67 #[verA x a1 c1,verA y a2 c2] w fun e w'=>e=.returned (.bool (eqVer x y))/\Bl w w':=by
 unfold verA
 have HC:=hid (fun wx (hb:Bl w wx)=>slEqS_any a1 a2 c1 c2 x.df y.df wx (h1.kept (Kept.of_below hb)) (h2.kept (Kept.of_below hb)) hl)
 have HE:Hid (eqVer x y=(eqL eqS x.df y.df && (eqS x.nm y.nm && x.kd == y.kd && x.rg == y.rg && x.ofv == y.ofv && eqS x.en y.en && eqS x.ex y.ex && eqS x.sb y.sb))):=by unfold Hid;rfl
 clear h1 h2
 generalize eqL eqS x.df y.df=bd at HC HE
 generalize eqVer x y=R at HE |-
 generalize x.df.length=n1 at *
 generalize y.df.length=n2 at *
 obtain ⟨xnm,xkd,xrg,xof,xen,xex,xdf,xsb⟩:=x
 obtain ⟨ynm,ykd,yrg,yof,yen,yex,ydf,ysb⟩:=y
 simp only [eqS] at HE |-
 go_enter Tryz.func67,Tryz.ntmps67
 go_wp2_with (go_at_call 68;refine (HC.o _ (((Below.refl _ w).alloc (Nat.le_refl _) _).alloc (by simp) _)).mono ?_;rintro e w3 ⟨rfl,g3⟩;have p0:w3.cell? ⟨w.heap.size,0,none⟩=some (.string xnm):=box2_0 g3 (by simp <;> omega);have q0:w3.cell? ⟨w.heap.size+1,0,none⟩=some (.string ynm):=box2_1 g3 (by simp <;> omega);have p1:w3.cell? ⟨w.heap.size,1,none⟩=some (.int .u8 xkd):=box2_0 g3 (by simp <;> omega);have q1:w3.cell? ⟨w.heap.size+1,1,none⟩=some (.int .u8 ykd):=box2_1 g3 (by simp <;> omega);have p2:w3.cell? ⟨w.heap.size,2,none⟩=some (.int .i64 xrg):=box2_0 g3 (by simp <;> omega);have q2:w3.cell? ⟨w.heap.size+1,2,none⟩=some (.int .i64 yrg):=box2_1 g3 (by simp <;> omega);have p3:w3.cell? ⟨w.heap.size,3,none⟩=some (.int .i64 xof):=box2_0 g3 (by simp <;> omega);have q3:w3.cell? ⟨w.heap.size+1,3,none⟩=some (.int .i64 yof):=box2_1 g3 (by simp <;> omega);have p4:w3.cell? ⟨w.heap.size,4,none⟩=some (.string xen):=box2_0 g3 (by simp <;> omega);have q4:w3.cell? ⟨w.heap.size+1,4,none⟩=some (.string yen):=box2_1 g3 (by simp <;> omega);have p5:w3.cell? ⟨w.heap.size,5,none⟩=some (.string xex):=box2_0 g3 (by simp <;> omega);have q5:w3.cell? ⟨w.heap.size+1,5,none⟩=some (.string yex):=box2_1 g3 (by simp <;> omega);have p6:w3.cell? ⟨w.heap.size,6,none⟩=some (.slice a1 n1 c1):=box2_0 g3 (by simp <;> omega);have q6:w3.cell? ⟨w.heap.size+1,6,none⟩=some (.slice a2 n2 c2):=box2_1 g3 (by simp <;> omega);have p7:w3.cell? ⟨w.heap.size,7,none⟩=some (.string xsb):=box2_0 g3 (by simp <;> omega);have q7:w3.cell? ⟨w.heap.size+1,7,none⟩=some (.string ysb):=box2_1 g3 (by simp <;> omega))
 all_goals
   go_ret
   refine ⟨ret_bool ?_,?_⟩
   . rw [HE.o]
     simp_all [Int.natCast_inj] <;> omega
   . first
     | exact below_box2 g3
     | exact (((Below.refl _ w).alloc (Nat.le_refl _) _).alloc (by simp) _)
theorem rsameVer_any {Q Q':BP} (x y:VerD) (a1 a2:Option Addr) (c1 c2:Nat) (w:World) (h1:SlS Q w (.slice a1 x.df.length c1) x.df) (h2:SlS Q' w (.slice a2 y.df.length c2) y.df) (hl:x.df.length<=140737488355328) :
   Calls Tryz.prog 33 #[verA x a1 c1,verA y a2 c2] w fun e w'=>e=.returned (.bool (eqVer x y))/\Bl w w':=by
 unfold verA
 have HC:=hid (fun wx (hb:Bl w wx)=>texts_any a1 a2 c1 c2 x.df y.df wx (h1.kept (Kept.of_below hb)) (h2.kept (Kept.of_below hb)) hl)
 have HE:Hid (eqVer x y=(eqL eqS x.df y.df && (eqS x.nm y.nm && x.kd == y.kd && x.rg == y.rg && x.ofv == y.ofv && eqS x.en y.en && eqS x.ex y.ex && eqS x.sb y.sb))):=by unfold Hid;rfl
 clear h1 h2
 generalize eqL eqS x.df y.df=bd at HC HE
 generalize eqVer x y=R at HE |-
 generalize x.df.length=n1 at *
 generalize y.df.length=n2 at *
 obtain ⟨xnm,xkd,xrg,xof,xen,xex,xdf,xsb⟩:=x
 obtain ⟨ynm,ykd,yrg,yof,yen,yex,ydf,ysb⟩:=y
 simp only [eqS] at HE |-
 go_enter Tryz.func33,Tryz.ntmps33
 go_wp2_with (go_at_call 32;refine (HC.o _ (((Below.refl _ w).alloc (Nat.le_refl _) _).alloc (by simp) _)).mono ?_;rintro e w3 ⟨rfl,g3⟩;have p0:w3.cell? ⟨w.heap.size,0,none⟩=some (.string xnm):=box2_0 g3 (by simp <;> omega);have q0:w3.cell? ⟨w.heap.size+1,0,none⟩=some (.string ynm):=box2_1 g3 (by simp <;> omega);have p1:w3.cell? ⟨w.heap.size,1,none⟩=some (.int .u8 xkd):=box2_0 g3 (by simp <;> omega);have q1:w3.cell? ⟨w.heap.size+1,1,none⟩=some (.int .u8 ykd):=box2_1 g3 (by simp <;> omega);have p2:w3.cell? ⟨w.heap.size,2,none⟩=some (.int .i64 xrg):=box2_0 g3 (by simp <;> omega);have q2:w3.cell? ⟨w.heap.size+1,2,none⟩=some (.int .i64 yrg):=box2_1 g3 (by simp <;> omega);have p3:w3.cell? ⟨w.heap.size,3,none⟩=some (.int .i64 xof):=box2_0 g3 (by simp <;> omega);have q3:w3.cell? ⟨w.heap.size+1,3,none⟩=some (.int .i64 yof):=box2_1 g3 (by simp <;> omega);have p4:w3.cell? ⟨w.heap.size,4,none⟩=some (.string xen):=box2_0 g3 (by simp <;> omega);have q4:w3.cell? ⟨w.heap.size+1,4,none⟩=some (.string yen):=box2_1 g3 (by simp <;> omega);have p5:w3.cell? ⟨w.heap.size,5,none⟩=some (.string xex):=box2_0 g3 (by simp <;> omega);have q5:w3.cell? ⟨w.heap.size+1,5,none⟩=some (.string yex):=box2_1 g3 (by simp <;> omega);have p6:w3.cell? ⟨w.heap.size,6,none⟩=some (.slice a1 n1 c1):=box2_0 g3 (by simp <;> omega);have q6:w3.cell? ⟨w.heap.size+1,6,none⟩=some (.slice a2 n2 c2):=box2_1 g3 (by simp <;> omega);have p7:w3.cell? ⟨w.heap.size,7,none⟩=some (.string xsb):=box2_0 g3 (by simp <;> omega);have q7:w3.cell? ⟨w.heap.size+1,7,none⟩=some (.string ysb):=box2_1 g3 (by simp <;> omega))
 all_goals
   go_ret
   refine ⟨ret_bool ?_,?_⟩
   . rw [HE.o]
     simp_all [Int.natCast_inj] <;> omega
   . first
     | exact below_box2 g3
     | exact (((Below.refl _ w).alloc (Nat.le_refl _) _).alloc (by simp) _)
theorem sameTrn_any {Q Q':BP} (x y:TrnD) (a1 a2:Option Addr) (c1 c2:Nat) (w:World) (h1:SlS Q w (.slice a1 x.tr.length c1) x.tr) (h2:SlS Q' w (.slice a2 y.tr.length c2) y.tr) (hl:x.tr.length<=140737488355328) :
   Calls Tryz.prog 69 #[trnA x a1 c1,trnA y a2 c2] w fun e w'=>e=.returned (.bool (eqTrn x y))/\Bl w w':=by
 unfold trnA
 have HC:=hid (fun wx (hb:Bl w wx)=>slEqS_any a1 a2 c1 c2 x.tr y.tr wx (h1.kept (Kept.of_below hb)) (h2.kept (Kept.of_below hb)) hl)
 have HE:Hid (eqTrn x y=(eqS x.nm y.nm && x.src == y.src && x.tgt == y.tgt && eqL eqS x.tr y.tr && x.af == y.af && eqS x.gd y.gd && eqS x.ef y.ef && x.kd == y.kd)):=by unfold Hid;rfl
 clear h1 h2
 generalize eqL eqS x.tr y.tr=bd at HC HE
 generalize eqTrn x y=R at HE |-
 generalize x.tr.length=n1 at *
 generalize y.tr.length=n2 at *
 obtain ⟨xnm,xsrc,xtgt,xtr,xaf,xgd,xef,xkd⟩:=x
 obtain ⟨ynm,ysrc,ytgt,ytr,yaf,ygd,yef,ykd⟩:=y
 simp only [eqS] at HE |-
 go_enter Tryz.func69,Tryz.ntmps69
 go_wp2_with (go_at_call 68;refine (HC.o _ (((Below.refl _ w).alloc (Nat.le_refl _) _).alloc (by simp) _)).mono ?_;rintro e w3 ⟨rfl,g3⟩;have p0:w3.cell? ⟨w.heap.size,0,none⟩=some (.string xnm):=box2_0 g3 (by simp <;> omega);have q0:w3.cell? ⟨w.heap.size+1,0,none⟩=some (.string ynm):=box2_1 g3 (by simp <;> omega);have p1:w3.cell? ⟨w.heap.size,1,none⟩=some (.int .i64 xsrc):=box2_0 g3 (by simp <;> omega);have q1:w3.cell? ⟨w.heap.size+1,1,none⟩=some (.int .i64 ysrc):=box2_1 g3 (by simp <;> omega);have p2:w3.cell? ⟨w.heap.size,2,none⟩=some (.int .i64 xtgt):=box2_0 g3 (by simp <;> omega);have q2:w3.cell? ⟨w.heap.size+1,2,none⟩=some (.int .i64 ytgt):=box2_1 g3 (by simp <;> omega);have p3:w3.cell? ⟨w.heap.size,3,none⟩=some (.slice a1 n1 c1):=box2_0 g3 (by simp <;> omega);have q3:w3.cell? ⟨w.heap.size+1,3,none⟩=some (.slice a2 n2 c2):=box2_1 g3 (by simp <;> omega);have p4:w3.cell? ⟨w.heap.size,4,none⟩=some (.int .i64 xaf):=box2_0 g3 (by simp <;> omega);have q4:w3.cell? ⟨w.heap.size+1,4,none⟩=some (.int .i64 yaf):=box2_1 g3 (by simp <;> omega);have p5:w3.cell? ⟨w.heap.size,5,none⟩=some (.string xgd):=box2_0 g3 (by simp <;> omega);have q5:w3.cell? ⟨w.heap.size+1,5,none⟩=some (.string ygd):=box2_1 g3 (by simp <;> omega);have p6:w3.cell? ⟨w.heap.size,6,none⟩=some (.string xef):=box2_0 g3 (by simp <;> omega);have q6:w3.cell? ⟨w.heap.size+1,6,none⟩=some (.string yef):=box2_1 g3 (by simp <;> omega);have p7:w3.cell? ⟨w.heap.size,7,none⟩=some (.int .u8 xkd):=box2_0 g3 (by simp <;> omega);have q7:w3.cell? ⟨w.heap.size+1,7,none⟩=some (.int .u8 ykd):=box2_1 g3 (by simp <;> omega))
 all_goals
   go_ret
   refine ⟨ret_bool ?_,?_⟩
   . rw [HE.o]
     simp_all
     try (rw [Bool.eq_iff_iff];simp [Int.natCast_inj])
   . first
     | exact below_box2 g3
     | exact (((Below.refl _ w).alloc (Nat.le_refl _) _).alloc (by simp) _)
theorem rsameTrn_any {Q Q':BP} (x y:TrnD) (a1 a2:Option Addr) (c1 c2:Nat) (w:World) (h1:SlS Q w (.slice a1 x.tr.length c1) x.tr) (h2:SlS Q' w (.slice a2 y.tr.length c2) y.tr) (hl:x.tr.length<=140737488355328) :
   Calls Tryz.prog 34 #[trnA x a1 c1,trnA y a2 c2] w fun e w'=>e=.returned (.bool (eqTrn x y))/\Bl w w':=by
 unfold trnA
 have HC:=hid (fun wx (hb:Bl w wx)=>texts_any a1 a2 c1 c2 x.tr y.tr wx (h1.kept (Kept.of_below hb)) (h2.kept (Kept.of_below hb)) hl)
 have HE:Hid (eqTrn x y=(eqS x.nm y.nm && x.src == y.src && x.tgt == y.tgt && eqL eqS x.tr y.tr && x.af == y.af && eqS x.gd y.gd && eqS x.ef y.ef && x.kd == y.kd)):=by unfold Hid;rfl
 clear h1 h2
 generalize eqL eqS x.tr y.tr=bd at HC HE
 generalize eqTrn x y=R at HE |-
 generalize x.tr.length=n1 at *
 generalize y.tr.length=n2 at *
 obtain ⟨xnm,xsrc,xtgt,xtr,xaf,xgd,xef,xkd⟩:=x
 obtain ⟨ynm,ysrc,ytgt,ytr,yaf,ygd,yef,ykd⟩:=y
 simp only [eqS] at HE |-
 go_enter Tryz.func34,Tryz.ntmps34
 go_wp2_with (go_at_call 32;refine (HC.o _ (((Below.refl _ w).alloc (Nat.le_refl _) _).alloc (by simp) _)).mono ?_;rintro e w3 ⟨rfl,g3⟩;have p0:w3.cell? ⟨w.heap.size,0,none⟩=some (.string xnm):=box2_0 g3 (by simp <;> omega);have q0:w3.cell? ⟨w.heap.size+1,0,none⟩=some (.string ynm):=box2_1 g3 (by simp <;> omega);have p1:w3.cell? ⟨w.heap.size,1,none⟩=some (.int .i64 xsrc):=box2_0 g3 (by simp <;> omega);have q1:w3.cell? ⟨w.heap.size+1,1,none⟩=some (.int .i64 ysrc):=box2_1 g3 (by simp <;> omega);have p2:w3.cell? ⟨w.heap.size,2,none⟩=some (.int .i64 xtgt):=box2_0 g3 (by simp <;> omega);have q2:w3.cell? ⟨w.heap.size+1,2,none⟩=some (.int .i64 ytgt):=box2_1 g3 (by simp <;> omega);have p3:w3.cell? ⟨w.heap.size,3,none⟩=some (.slice a1 n1 c1):=box2_0 g3 (by simp <;> omega);have q3:w3.cell? ⟨w.heap.size+1,3,none⟩=some (.slice a2 n2 c2):=box2_1 g3 (by simp <;> omega);have p4:w3.cell? ⟨w.heap.size,4,none⟩=some (.int .i64 xaf):=box2_0 g3 (by simp <;> omega);have q4:w3.cell? ⟨w.heap.size+1,4,none⟩=some (.int .i64 yaf):=box2_1 g3 (by simp <;> omega);have p5:w3.cell? ⟨w.heap.size,5,none⟩=some (.string xgd):=box2_0 g3 (by simp <;> omega);have q5:w3.cell? ⟨w.heap.size+1,5,none⟩=some (.string ygd):=box2_1 g3 (by simp <;> omega);have p6:w3.cell? ⟨w.heap.size,6,none⟩=some (.string xef):=box2_0 g3 (by simp <;> omega);have q6:w3.cell? ⟨w.heap.size+1,6,none⟩=some (.string yef):=box2_1 g3 (by simp <;> omega);have p7:w3.cell? ⟨w.heap.size,7,none⟩=some (.int .u8 xkd):=box2_0 g3 (by simp <;> omega);have q7:w3.cell? ⟨w.heap.size+1,7,none⟩=some (.int .u8 ykd):=box2_1 g3 (by simp <;> omega))
 all_goals
   go_ret
   refine ⟨ret_bool ?_,?_⟩
   . rw [HE.o]
     simp_all
     try (rw [Bool.eq_iff_iff];simp [Int.natCast_inj])
   . first
     | exact below_box2 g3
     | exact (((Below.refl _ w).alloc (Nat.le_refl _) _).alloc (by simp) _)
end Go.Proofs
