/- Walks: the document's 'find', 'bound', 'points', 'many', 'hasVar', 'hasText' (submachines). -/
import Derived.Test.YtfladiadgkfebaaGreatDoorKEmLM
namespace Go.Md
open Go.RowKit Go.Lx Go.Proofs
open Lib(hid)
set_option maxRecDepth 100000
set_option maxHeartbeats 0
set_option linter.unusedVariables false
theorem fndF_drop {l:List MdlD} {s:ByteArray} {k:Nat} (h:k<l.length):fndF s k (l.drop k)=if eqS l[k].nm s then some k else fndF s (k+1) (l.drop (k+1)):=by
 rw [List.drop_eq_getElem_cons h,fndF]
theorem bndF_drop {l:List VerD} {p:VerD} {k:Nat} (h:k<l.length):bndF p k (l.drop k)=if bndB p l[k] then some k else bndF p (k+1) (l.drop (k+1)):=by
 rw [List.drop_eq_getElem_cons h,bndF]
def iO (o:Option Nat):Int:=match o with | some n=>n | none=>-1
theorem fndI_is (l:List MdlD) (s:ByteArray):fndI l s=iO (fndF s 0 l):=rfl
theorem bndI_is (p:VerD) (m:MdlD):bndI p m=iO (bndF p 0 m.vers):=rfl
end Go.Md
namespace Go.Proofs
open Go.RowKit Go.Lx Go.Md Go.Shelf Go.BigFrame Go.Rgi
open Lib(hid)
set_option maxRecDepth 100000
set_option maxHeartbeats 0
set_option linter.unusedVariables false
theorem rfind_any (N:Nat) (l:List MdlD) (a:Option Addr) (c:Nat) (s:ByteArray) (w:World) (h:LibV N w (.slice a l.length c) l) (hl:l.length<=100000):Calls Tryz.prog 21 #[.slice a l.length c,.string s] w fun e w'=>e=.returned (.int .i64 (fndI l s))/\w'=w:=by
 have HI:=hid (fndI_is l s)
 have HD:=hid fun k (hk:k<l.length)=>fndF_drop (s:=s) hk
 have HE:Hid (fndF s l.length (l.drop l.length)=none):=hid (by simp [fndF])
 have H:=hid h
 clear h
 rw [HI.o]
 go_enter Tryz.func21,Tryz.ntmps21
 go_wp2_with fail
 go_loopw [5] (fun i wr=>∃ k:Nat,k<=l.length/\i=.int .i64 k/\wr=w/\Hid (fndF s 0 l=fndF s k (l.drop k))) (fun i _=>l.length - (intOf i).toNat)
 case atStart=>exact ⟨0,by omega,rfl,by first | rfl | trivial,by rw [List.drop_zero];exact rfl⟩
 case round =>
  obtain ⟨k,hk,rfl,rfl,HF⟩:=hrel
  by_cases hlt:k<l.length
  . have hkI:(k:Int)<(l.length:Int):=by omega
    have hk0:(0:Int)<=(k:Int):=by omega
    obtain ⟨b1,o1,e1,hb1,pm,_,r0,_⟩:=H.o.get hlt
    have HDk:=hid (HD.o k hlt)
    obtain ⟨y,hy⟩:=ex2 (l[k].nm)
    rw [hy] at r0 HDk
    subst e1
    clear hy
    cases hq:eqS y s with
    | true =>
     rw [hq] at HDk
     have hq':(y.toList == s.toList)=true:=hq
     have HR:Hid (iO (fndF s 0 l)=k):=hid (by rw [HF.o,HDk.o];rfl)
     clear hq
     go_wp2_with fail
     go_ret
     exact ⟨ret_int HR.o.symm,by first | rfl | trivial⟩
    | false =>
     rw [hq] at HDk
     have hq':(y.toList == s.toList)=false:=hq
     have HR:Hid (fndF s 0 l=fndF s (k+1) (l.drop (k+1))):=hid (by rw [HF.o,HDk.o];rfl)
     clear hq
     go_wp2_with fail
     go_roundw
     case rel=>exact ⟨k+1,by omega,by go_num,by first | rfl | trivial,HR⟩
     case measure=>simp [intOf] <;> omega
  . obtain rfl:k=l.length:=by omega
    have HR:Hid (iO (fndF s 0 l)=-1):=hid (by rw [HF.o,HE.o];rfl)
    go_wp2_with fail
    go_ret
    exact ⟨ret_int HR.o.symm,by first | rfl | trivial⟩
theorem rmany_any (m:MdlD) (p:Ph) (w:World):Calls Tryz.prog 25 #[mdV m p] w fun e w'=>e=.returned (.bool (manyM m))/\Below w.heap.size w w':=by
 unfold mdV
 obtain ⟨R,hR⟩:=ex2 (manyM m)
 rw [hR]
 have HM:Hid (R=(decide (512<m.regs.length) || decide (512<m.vers.length) || decide (512<m.trns.length))):=hid hR.symm
 clear hR
 by_cases h3:(512:Int)<(m.regs.length:Int)
 . have hR:R=true:=by rw [HM.o];simp;omega
   subst hR
   go_enter Tryz.func25,Tryz.ntmps25
   go_wp2_with fail
   go_ret
   exact ⟨rfl,below_al1 w _⟩
 . by_cases h4:(512:Int)<(m.vers.length:Int)
   . have hR:R=true:=by rw [HM.o];simp;omega
     subst hR
     go_enter Tryz.func25,Tryz.ntmps25
     go_wp2_with fail
     go_ret
     exact ⟨rfl,below_al1 w _⟩
   . by_cases h5:(512:Int)<(m.trns.length:Int)
     . have hR:R=true:=by rw [HM.o];simp;omega
       subst hR
       go_enter Tryz.func25,Tryz.ntmps25
       go_wp2_with fail
       go_ret
       exact ⟨rfl,below_al1 w _⟩
     . have hR:R=false:=by rw [HM.o];simp;omega
       subst hR
       go_enter Tryz.func25,Tryz.ntmps25
       go_wp2_with fail
       go_ret
       exact ⟨rfl,below_al1 w _⟩
theorem rhasVar_any {Q:BP} (l:List VarD) (a:Option Addr) (c:Nat) (s:ByteArray) (w:World) (h:Sl Q 2 VarE w (.slice a l.length c) l) (hl:l.length<=1000000):Calls Tryz.prog 26 #[.slice a l.length c,.string s] w fun e w'=>e=.returned (.bool (l.any fun y=>eqS y.nm s))/\w'=w:=by
 have H:=hid h
 have HA:Hid (∀ k (hk:k<l.length),eqS (l[k].nm) s=true->(l.any fun y=>eqS y.nm s)=true):=hid fun k hk he=>List.any_eq_true.2 ⟨_,List.getElem_mem hk,he⟩
 have HN:Hid ((∀ k (hk:k<l.length),eqS (l[k].nm) s=false)->(l.any fun y=>eqS y.nm s)=false):=hid fun h=>by
   rw [List.any_eq_false];intro y hy
   obtain ⟨k,hk,rfl⟩:=List.getElem_of_mem hy
   rw [h k hk];decide
 clear h
 obtain ⟨R,hR⟩:∃ R,(l.any fun y=>eqS y.nm s)=R:=⟨_,rfl⟩
 rw [hR] at HA HN |-
 clear hR
 go_enter Tryz.func26,Tryz.ntmps26
 go_wp2_with fail
 go_loopw [5] (fun i wr=>∃ k:Nat,k<=l.length/\i=.int .i64 k/\wr=w/\Hid (∀ j (hj:j<l.length),j<k->eqS (l[j].nm) s=false)) (fun i _=>l.length - (intOf i).toNat)
 case atStart=>exact ⟨0,by omega,rfl,by first | rfl | trivial,fun j _ hj=>absurd hj (Nat.not_lt_zero _)⟩
 case round =>
  obtain ⟨k,hk,rfl,rfl,HF⟩:=hrel
  by_cases hlt:k<l.length
  . have hkI:(k:Int)<(l.length:Int):=by omega
    have hk0:(0:Int)<=(k:Int):=by omega
    obtain ⟨b1,o1,e1,hb1,r0⟩:=H.o.get hlt
    have HAk:=hid (HA.o k hlt)
    have HFk:Hid (eqS (l[k].nm) s=false->∀ j (hj:j<l.length),j<k+1->eqS (l[j].nm) s=false):=hid fun he j hj hjk=>by
      by_cases e:j=k
      . subst e;exact he
      . exact HF.o j hj (by omega)
    obtain ⟨y,hy⟩:=ex2 (l[k])
    rw [hy] at r0 HAk HFk
    have r1:=r0.1
    subst e1
    clear hy r0
    cases hq:eqS (y.nm) s with
    | true =>
     rw [hq] at HAk
     have hq':((y.nm).toList == s.toList)=true:=hq
     clear hq
     go_wp2_with fail
     go_ret
     exact ⟨ret_bool (HAk.o (by first | rfl | trivial)).symm,by first | rfl | trivial⟩
    | false =>
     rw [hq] at HFk
     have hq':((y.nm).toList == s.toList)=false:=hq
     clear hq
     go_wp2_with fail
     go_roundw
     case rel=>exact ⟨k+1,by omega,by go_num,by first | rfl | trivial,HFk.o rfl⟩
     case measure=>simp [intOf] <;> omega
  . obtain rfl:k=l.length:=by omega
    have HR:=hid (HN.o fun j hj=>HF.o j hj hj)
    go_wp2_with fail
    go_ret
    exact ⟨ret_bool HR.o.symm,by first | rfl | trivial⟩
theorem rhasText_any {Q:BP} (l:List ByteArray) (a:Option Addr) (c:Nat) (s:ByteArray) (w:World) (h:SlS Q w (.slice a l.length c) l) (hl:l.length<=1000000):Calls Tryz.prog 27 #[.slice a l.length c,.string s] w fun e w'=>e=.returned (.bool (l.any fun y=>eqS y s))/\w'=w:=by
 have H:=hid h
 have HA:Hid (∀ k (hk:k<l.length),eqS (l[k]) s=true->(l.any fun y=>eqS y s)=true):=hid fun k hk he=>List.any_eq_true.2 ⟨_,List.getElem_mem hk,he⟩
 have HN:Hid ((∀ k (hk:k<l.length),eqS (l[k]) s=false)->(l.any fun y=>eqS y s)=false):=hid fun h=>by
   rw [List.any_eq_false];intro y hy
   obtain ⟨k,hk,rfl⟩:=List.getElem_of_mem hy
   rw [h k hk];decide
 clear h
 obtain ⟨R,hR⟩:∃ R,(l.any fun y=>eqS y s)=R:=⟨_,rfl⟩
 rw [hR] at HA HN |-
 clear hR
 go_enter Tryz.func27,Tryz.ntmps27
 go_wp2_with fail
 go_loopw [5] (fun i wr=>∃ k:Nat,k<=l.length/\i=.int .i64 k/\wr=w/\Hid (∀ j (hj:j<l.length),j<k->eqS (l[j]) s=false)) (fun i _=>l.length - (intOf i).toNat)
 case atStart=>exact ⟨0,by omega,rfl,by first | rfl | trivial,fun j _ hj=>absurd hj (Nat.not_lt_zero _)⟩
 case round =>
  obtain ⟨k,hk,rfl,rfl,HF⟩:=hrel
  by_cases hlt:k<l.length
  . have hkI:(k:Int)<(l.length:Int):=by omega
    have hk0:(0:Int)<=(k:Int):=by omega
    obtain ⟨b1,o1,e1,hb1,r1⟩:=H.o.get hlt
    have HAk:=hid (HA.o k hlt)
    have HFk:Hid (eqS (l[k]) s=false->∀ j (hj:j<l.length),j<k+1->eqS (l[j]) s=false):=hid fun he j hj hjk=>by
      by_cases e:j=k
      . subst e;exact he
      . exact HF.o j hj (by omega)
    obtain ⟨y,hy⟩:=ex2 (l[k])
    rw [hy] at r1 HAk HFk
    subst e1
    clear hy
    cases hq:eqS y s with
    | true =>
     rw [hq] at HAk
     have hq':(y.toList == s.toList)=true:=hq
     clear hq
     go_wp2_with fail
     go_ret
     exact ⟨ret_bool (HAk.o (by first | rfl | trivial)).symm,by first | rfl | trivial⟩
    | false =>
     rw [hq] at HFk
     have hq':(y.toList == s.toList)=false:=hq
     clear hq
     go_wp2_with fail
     go_roundw
     case rel=>exact ⟨k+1,by omega,by go_num,by first | rfl | trivial,HFk.o rfl⟩
     case measure=>simp [intOf] <;> omega
  . obtain rfl:k=l.length:=by omega
    have HR:=hid (HN.o fun j hj=>HF.o j hj hj)
    go_wp2_with fail
    go_ret
    exact ⟨ret_bool HR.o.symm,by first | rfl | trivial⟩
end Go.Proofs

namespace Go.Proofs
open Go.RowKit Go.Lx Go.Md Go.Shelf Go.BigFrame Go.Rgi
open Lib(hid)
set_option maxRecDepth 100000
set_option maxHeartbeats 0
set_option linter.unusedVariables false
theorem two_objs (w:World) (a b:Obj):((w.alloc a).alloc b).heap[w.heap.size]? = some a/\((w.alloc a).alloc b).heap[w.heap.size+1]? = some b/\Below w.heap.size w ((w.alloc a).alloc b)/\((w.alloc a).alloc b).heap.size=w.heap.size+1+1:=by
 refine ⟨?_,alloc2_at _ _ _,below_al2 w _ _,by simp⟩
 rw [Below.heap_alloc _ _ _ (by simp),World.alloc_heap_new]
theorem rbound_any {Q:Nat->BP} (p:VerD) (a:Option Addr) (c:Nat) (m:MdlD) (ph:Ph) (w:World) (h:Mod Q w m ph) (hv:m.vers.length<=1000000) :
   Calls Tryz.prog 43 #[verA p a c,mdV m ph] w fun e w'=>e=.returned (.int .i64 (bndI p m))/\Below w.heap.size w w':=by
 have HI:=hid (Md.bndI_is p m)
 have HD:=hid fun k (hk:k<m.vers.length)=>bndF_drop (p:=p) hk
 have HE:Hid (bndF p m.vers.length (m.vers.drop m.vers.length)=none):=hid (by simp [bndF])
 have HP:=hid fun y=>bndB_is p y
 have HM:=hid fun wx (g:Below w.heap.size w wx)=>(h.below g).vers
 clear h
 rw [HI.o]
 unfold verA mdV
 have hk:(p.kd=11/\((p.kd:Int) == 11)=true)\/(p.kd≠11/\((p.kd:Int) == 11)=false):=by
   by_cases e:p.kd=11
   . exact .inl ⟨e,by rw [e];rfl⟩
   . exact .inr ⟨e,by rw [beq_eq_false_iff_ne];omega⟩
 rcases hk with ⟨hk,hkI⟩ | ⟨hk,hkI⟩
 all_goals
   have HKd:=hid hk
   clear hk
   go_enter Tryz.func43,Tryz.ntmps43
   go_upto_region 1 with fail
   have hO:=two_objs w (.cells #[.string p.nm,.int .u8 p.kd,.int .i64 p.rg,.int .i64 p.ofv,.string p.en,.string p.ex,.slice a p.df.length c,.string p.sb] 86) (.cells #[.string m.nm,.slice ph.a1 m.vars.length ph.c1,.slice ph.a2 m.evs.length ph.c2,.slice ph.a3 m.regs.length ph.c3,.slice ph.a4 m.vers.length ph.c4,.slice ph.a5 m.trns.length ph.c5] 33)
   generalize ((w.alloc (.cells #[.string p.nm,.int .u8 p.kd,.int .i64 p.rg,.int .i64 p.ofv,.string p.en,.string p.ex,.slice a p.df.length c,.string p.sb] 86)).alloc (.cells #[.string m.nm,.slice ph.a1 m.vars.length ph.c1,.slice ph.a2 m.evs.length ph.c2,.slice ph.a3 m.regs.length ph.c3,.slice ph.a4 m.vers.length ph.c4,.slice ph.a5 m.trns.length ph.c5] 33))=W2 at *
   obtain ⟨hX,hM2,hB2,hz2⟩:=hO
   have HX:=hid fun W' (g:Below W2.heap.size W2 W')=>cells8 ((g.block _ (by omega)).trans hX)
   have HB:=hid fun W' (g:Below W2.heap.size W2 W')=>box_at ((g.block _ (by omega)).trans hM2)
   have HB2:=hid hB2
   obtain ⟨p0,p1,p2,p3,p4,p5,p6,p7⟩:=HX.o W2 (Below.refl _ _)
   obtain ⟨x0,x1,x2,x3,x4,x5,_⟩:=HB.o W2 (Below.refl _ _)
   clear hX hM2 hB2
   go_wp2_with fail
   go_loopw [6] (fun i wr=>∃ k:Nat,k<=m.vers.length/\i=.int .i64 k/\Below W2.heap.size W2 wr/\Hid (bndF p 0 m.vers=bndF p k (m.vers.drop k))) (fun i _=>m.vers.length - (intOf i).toNat)
   case atStart=>exact ⟨0,by omega,rfl,Below.refl _ _,by rw [List.drop_zero];exact rfl⟩
   case round =>
    clear p0 p1 p2 p3 p4 p5 p6 p7 x0 x1 x2 x3 x4 x5
    obtain ⟨wo,rfl⟩:=ex1 wr
    obtain ⟨k,hk2,rfl,hb,HF⟩:=hrel
    obtain ⟨p0,p1,p2,p3,p4,p5,p6,p7⟩:=HX.o wo hb
    obtain ⟨x0,x1,x2,x3,x4,x5,_⟩:=HB.o wo hb
    have hbs:=hb.size
    have HBo:=hid hb
    by_cases hlt:k<m.vers.length
    . have hI:(k:Int)<(m.vers.length:Int):=by omega
      have hI0:(0:Int)<=(k:Int):=by omega
      have hvs:=HM.o wo (HB2.o.trans (hb.mono (by omega)))
      obtain ⟨b2,o2,ea,hb2,dv,hdv,r0,r1,r2,r3,r4,r5,r6,r7⟩:=hvs.get hlt
      obtain ⟨da,dc,rfl⟩:=hdv.len
      have HDk:=hid (HD.o k hlt)
      obtain ⟨y,hy⟩:=ex2 (m.vers[k])
      rw [hy] at r0 r1 r2 r3 r4 r5 r6 r7 HDk
      rw [ea] at x4
      clear ea
      have HPy:=hid (HP.o y)
      have hz3:w.heap.size<wo.heap.size/\w.heap.size+1<wo.heap.size:=by omega
      obtain ⟨hz4,hz5⟩:=hz3
      clear hvs hdv hy hb
      cases h1:p.nm.toList.isEmpty
      . cases h2:(y.nm.toList == p.nm.toList)
        . have hR:bndB p y=false:=by rw [HPy.o,h1,h2];rfl
          rw [hR] at HDk
          have HR:Hid (bndF p 0 m.vers=bndF p (k+1) (m.vers.drop (k+1))):=hid (by rw [HF.o,HDk.o];rfl)
          clear hR
          go_wp2_with fail
          go_roundw
          case rel=>exact ⟨k+1,by omega,by go_num,HBo.o.trans ((below_al1 wo _).mono hbs),HR⟩
          case measure=>simp [intOf] <;> omega
        . cases h3:((y.kd:Int) == (if p.kd=11 then 2 else 1))
          . have hR:bndB p y=false:=by rw [HPy.o,h1,h2,h3];rfl
            rw [hR] at HDk
            have HR:Hid (bndF p 0 m.vers=bndF p (k+1) (m.vers.drop (k+1))):=hid (by rw [HF.o,HDk.o];rfl)
            first | rw [if_pos HKd.o] at h3 | rw [if_neg HKd.o] at h3
            clear hR
            go_wp2_with fail
            go_roundw
            case rel=>exact ⟨k+1,by omega,by go_num,HBo.o.trans ((below_al1 wo _).mono hbs),HR⟩
            case measure=>simp [intOf] <;> omega
          . cases h4:(y.rg == 0)
            . have hR:bndB p y=false:=by rw [HPy.o,h1,h2,h3,h4];rfl
              rw [hR] at HDk
              have HR:Hid (bndF p 0 m.vers=bndF p (k+1) (m.vers.drop (k+1))):=hid (by rw [HF.o,HDk.o];rfl)
              first | rw [if_pos HKd.o] at h3 | rw [if_neg HKd.o] at h3
              clear hR
              go_wp2_with fail
              go_roundw
              case rel=>exact ⟨k+1,by omega,by go_num,HBo.o.trans ((below_al1 wo _).mono hbs),HR⟩
              case measure=>simp [intOf] <;> omega
            . have hR:bndB p y=true:=by rw [HPy.o,h1,h2,h3,h4];rfl
              rw [hR] at HDk
              have HR:Hid (iO (bndF p 0 m.vers)=k):=hid (by rw [HF.o,HDk.o];rfl)
              first | rw [if_pos HKd.o] at h3 | rw [if_neg HKd.o] at h3
              clear hR
              go_wp2_with fail
              go_ret
              exact ⟨ret_int HR.o.symm,(HB2.o.trans (HBo.o.mono (by omega))).trans ((below_al1 wo _).mono (by omega))⟩
      . have hR:bndB p y=false:=by rw [HPy.o,h1];rfl
        rw [hR] at HDk
        have HR:Hid (bndF p 0 m.vers=bndF p (k+1) (m.vers.drop (k+1))):=hid (by rw [HF.o,HDk.o];rfl)
        clear hR
        go_wp2_with fail
        go_roundw
        case rel=>exact ⟨k+1,by omega,by go_num,HBo.o.trans ((below_al1 wo _).mono hbs),HR⟩
        case measure=>simp [intOf] <;> omega
    . obtain rfl:k=m.vers.length:=by omega
      have HR:Hid (iO (bndF p 0 m.vers)=-1):=hid (by rw [HF.o,HE.o];rfl)
      go_wp2_with fail
      go_ret
      exact ⟨ret_int HR.o.symm,HB2.o.trans (HBo.o.mono (by omega))⟩
theorem rpoints_any {Q:Nat->BP} (m:MdlD) (p:Ph) (s:Int) (w:World) (h:Mod Q w m p) (hv:m.vers.length<=1000000):Calls Tryz.prog 42 #[mdV m p,.int .i64 s] w (RowP (ptsM m s) w):=by
 obtain ⟨iI,hiI,zI0,zI1,zI2⟩:=info_parts info_Num
 have HB:=hid (Mb.madeT h 33)
 unfold mdV RowP
 clear h
 go_enter Tryz.func42,Tryz.ntmps42
 go_upto_region 1 with fail
 generalize w.alloc (.cells #[.string m.nm,.slice p.a1 m.vars.length p.c1,.slice p.a2 m.evs.length p.c2,.slice p.a3 m.regs.length p.c3,.slice p.a4 m.vers.length p.c4,.slice p.a5 m.trns.length p.c5] 33)=W1 at *
 obtain ⟨x0,x1,x2,x3,x4,x5,_⟩:=HB.o.box
 have HT:=hid (fun k (hk:k<m.vers.length)=>sel_take (fun x:VerD=>x.ofv == s) hk)
 have HE:Hid (∀ k,k=m.vers.length->sel (fun x:VerD=>x.ofv == s) (m.vers.take k)=ptsM m s):=hid fun k e=>by subst e;rw [List.take_length];rfl
 have HL:Hid (∀ k,(sel (fun x:VerD=>x.ofv == s) (m.vers.take k)).length<=1000000):=hid fun k=>by
   have:=sel_len (fun x:VerD=>x.ofv == s) (m.vers.take k)
   have e2:(m.vers.take k).length<=m.vers.length:=by rw [List.length_take];omega
   omega
 have H0:Hid (sel (fun x:VerD=>x.ofv == s) (m.vers.take 0)=[]):=hid rfl
 go_wp2_with fail
 go_loopw [5,6] (fun o i wr=>∃ k:Nat,k<=m.vers.length/\i=.int .i64 k/\Mb m p w.heap.size w wr/\wr.ownsRow (w.heap.size+1) 3 1 o (sel (fun x:VerD=>x.ofv == s) (m.vers.take k)).length (nums (sel (fun x:VerD=>x.ofv == s) (m.vers.take k)))) (fun _ i _=>m.vers.length - (intOf i).toNat)
 case atStart=>exact ⟨0,by omega,rfl,HB.o,by rw [H0.o];exact World.ownsRow_nil _ _ _ _⟩
 case round =>
  clear x0 x1 x2 x3 x4 x5
  obtain ⟨wo,rfl⟩:=ex1 wr
  obtain ⟨k,hk,rfl,hb,ho⟩:=hrel
  have HB5:=hid hb
  have HO:=hid ho
  clear hb HB ho
  obtain ⟨x0,x1,x2,x3,x4,x5,_⟩:=HB5.o.box
  by_cases hlt:k<m.vers.length
  . have hI:(k:Int)<(m.vers.length:Int):=by omega
    have hI0:(0:Int)<=(k:Int):=by omega
    obtain ⟨b2,o2,ea,hb2,dv,hdv,r0,r1,r2,r3,r4,r5,r6,r7⟩:=HB5.o.mod.vers.get hlt
    obtain ⟨da,dc,rfl⟩:=hdv.len
    rw [ea] at x4
    clear ea
    have HTk:=hid (HT.o k hlt)
    have hz5:w.heap.size+1<=wo.heap.size:=HB5.o.box.sl
    clear HT hdv
    obtain ⟨t,ht⟩:∃ t,(m.vers[k].ofv == s)=t:=⟨_,rfl⟩
    rw [ht] at HTk
    have hnb:(sel (fun x:VerD=>x.ofv == s) (m.vers.take k)).length<1000000:=by
      have:=sel_len (fun x:VerD=>x.ofv == s) (m.vers.take k)
      have e2:(m.vers.take k).length=k:=by rw [List.length_take];omega
      omega
    cases t with
    | false =>
     have hS1:Hid (sel (fun x:VerD=>x.ofv == s) (m.vers.take (k+1))=sel (fun x:VerD=>x.ofv == s) (m.vers.take k)):=hid (by rw [HTk.o];simp)
     clear HTk
     go_wp2_with fail
     go_roundw
     case rel=>exact ⟨k+1,by omega,by go_num,HB5.o,by rw [hS1.o];exact HO.o⟩
     case measure=>simp [intOf] <;> omega
    | true =>
     have hS1:Hid (sel (fun x:VerD=>x.ofv == s) (m.vers.take (k+1))=sel (fun x:VerD=>x.ofv == s) (m.vers.take k) ++ [(k:Int)]):=hid (by rw [HTk.o];simp)
     clear HTk
     go_wp2_with (at_builtin;refine wpList_append_row _ rfl _ _ 95 rfl 3 (w.heap.size+1) iI (.int .i64 0) Tryz.underlying95 hiI zI0 zI1 zI2 rfl _ (sel (fun x:VerD=>x.ofv == s) (m.vers.take k)) rfl (HO.o.alloc _) _ [(k:Int)] rfl (row1 _ _ _) (by simp only [List.length_cons,List.length_nil];omega) (by simp;omega) ?_;intro v4 w4 hown4 hgrow4 hnxt4)
     have HB7:=hid (HB5.o.low (push_low hz5 HO.o hgrow4))
     go_roundw
     case rel=>exact ⟨k+1,by omega,by go_num,HB7.o,by rw [hS1.o];exact hown4⟩
     case measure=>simp [intOf] <;> omega
  . obtain rfl:k=m.vers.length:=by omega
    rw [HE.o _ rfl] at HO
    go_wp2_with fail
    go_ret
    exact ⟨_,rfl,HO.o.mono (by omega),HB5.o.bel⟩
end Go.Proofs
