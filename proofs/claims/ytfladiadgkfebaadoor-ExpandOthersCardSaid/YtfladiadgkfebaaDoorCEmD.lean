/- Walks: 'uses' of the program's expand, by the function that it is given. -/
import Derived.Test.YtfladiadgkfebaaDoorCEmC
import Derived.BigQuiet
namespace Go.Proofs
open Go.RowKit Go.Lx Go.Md Go.Maps Go.BigFrame
set_option linter.unusedVariables false
def nmF (l:List MdlD) (s:ByteArray):Option Value:=(fnd l s).map fun k=>.int .i64 k
structure LibA (N:Nat) (l:List MdlD) (a:Option Addr) (c LB NB SB cnt:Nat) (w:World):Prop where
 c0:w.cell? ⟨LB,0,none⟩=some (.slice a l.length c)
 c1:w.cell? ⟨LB,1,none⟩=some (.map (some NB))
 c2:w.cell? ⟨LB,2,none⟩=some (.map (some SB))
 lib:LibV N w (.slice a l.length c) l
 nam:NamAt NB cnt (nmF l) w
 lb:LB<w.heap.size
 nb:NB<w.heap.size
 nl:N≤w.heap.size
theorem LibA.below {N:Nat} {l:List MdlD} {a:Option Addr} {c LB NB SB cnt:Nat} {w w':World} (h:LibA N l a c LB NB SB cnt w) (g:Below w.heap.size w w'):LibA N l a c LB NB SB cnt w' :=
 ⟨(g.cell (p:=⟨LB,0,none⟩) h.lb).trans h.c0,(g.cell (p:=⟨LB,1,none⟩) h.lb).trans h.c1,(g.cell (p:=⟨LB,2,none⟩) h.lb).trans h.c2,h.lib.below (g.mono h.nl),h.nam.keep (g.block _ h.nb),Nat.lt_of_lt_of_le h.lb g.size,Nat.lt_of_lt_of_le h.nb g.size,Nat.le_trans h.nl g.size⟩
theorem zero_i64 (w:World):(zeroValue 3).run Tryd.prog w=.ok (.int .i64 0) w:=by kernel_rfl
theorem nam_look {l:List MdlD} {NB cnt:Nat} {w:World} (h:NamAt NB cnt (nmF l) w) {s:ByteArray} (hs:s.size≤140737488355328):(Instr.lookup 48 (.map (some NB)) (.string s) true).run Tryd.prog w=.ok (.tuple #[.int .i64 ((fnd l s).getD 0:Nat),.bool (fnd l s).isSome]) w:=by
 have:=MapG.look (E:=3) h str_key Tryd.underlying48 zero_i64 (s:=s) (key:=.string s) (WideMaps.keyOf_string_mk Tryd.underlying9 (by unfold maxLen;omega))
 rw [this]
 unfold nmF
 cases fnd l s <;> rfl
theorem LibA.look {N:Nat} {l:List MdlD} {a:Option Addr} {c LB NB SB cnt:Nat} {w:World} (h:LibA N l a c LB NB SB cnt w) {s:ByteArray} (hs:s.size≤140737488355328) (n:Nat):(Instr.lookup 48 (.map (some NB)) (.string s) true).run Tryd.prog (w.drewN n)=.ok (.tuple #[.int .i64 ((fnd l s).getD 0:Nat),.bool (fnd l s).isSome]) (w.drewN n) :=
 nam_look (h.nam.keep (by rw [World.heap_drewN])) hs
theorem fndI_some {l:List MdlD} {s:ByteArray} {k:Nat} (h:fnd l s=some k):fndI l s=k:=by unfold fndI;rw [h]
theorem fndI_none {l:List MdlD} {s:ByteArray} (h:fnd l s=none):fndI l s=-1:=by unfold fndI;rw [h]
set_option maxRecDepth 100000 in
set_option maxHeartbeats 4000000 in
theorem usesTi_any (N:Nat) (l:List MdlD) (a:Option Addr) (c LB NB SB cnt:Nat) (m:MdlD) (n:Nat) (B0 B1:Nat) (w:World) (J:Nat→World→Prop) (R:World→Prop) (hn:n<l.length) (hm:l[n]=m) (hl:l.length≤100000) (hv:m.vers.length≤10000) (hs:∀ x ∈ m.vers,x.sb.size≤140737488355328)
   (hJ:∀ k wr,J k wr→LibA N l a c LB NB SB cnt wr∧Below N w wr) (hst:∀ k wr wx,J k wr→Below wr.heap.size wr wx→J k wx)
   (hsk:∀ k wr (h:k<m.vers.length),J k wr→m.vers[k].sb.size=0→J (k+1) wr)
   (hcl:∀ k wr (h:k<m.vers.length),J k wr→0<m.vers[k].sb.size→Calls Tryd.prog 66 #[.int .i64 k,.int .i64 (fndI l (m.vers[k]).sb),.pointer (some (.mk B0 0 none)),.pointer (some (.mk B1 0 none))] wr fun e w'=>∃ b,e=.returned (.bool b)∧(b=true→J (k+1) w')∧(b=false→R w'))
   (h0:J 0 w):Calls Tryd.prog 39 #[.pointer (some ⟨LB,0,none⟩),.int .i64 n,.func (.func 66) #[] #[.pointer (some (.mk B0 0 none)),.pointer (some (.mk B1 0 none))]] w fun e w'=>∃ b,e=.returned (.bool b)∧(b=true→J m.vers.length w')∧(b=false→R w'):=by
 have HJ:=Lib.hid hJ
 have HST:=Lib.hid hst
 have HSK:=Lib.hid hsk
 have HCL:=Lib.hid hcl
 have HS:=Lib.hid hs
 have H0:=Lib.hid h0
 obtain ⟨hA,_⟩:=hJ 0 w h0
 have c0:=hA.c0
 have hla:=hA.lb
 obtain ⟨b1,o1,e1,hb1,ph,hmo,r0,r1,r2,r3,r4,r5⟩:=hA.lib.get hn
 rw [hm] at hmo r0 r1 r2 r3 r4 r5
 subst e1
 have HM:=Lib.hid hmo
 have hnI:(n:Int)<(l.length:Int):=by omega
 have hn0:(0:Int)≤(n:Int):=by omega
 clear hJ hst hsk hcl hs h0 hA hmo
 go_enter Tryd.func39,Tryd.ntmps39
 go_wp2_with fail
 clear r0 r1 r2 r3 r4 r5 c0
 go_loopw [20] (fun i wr=>∃ k:Nat,k≤m.vers.length∧i=.int .i64 k∧J k wr) (fun i _=>m.vers.length - (intOf i).toNat)
 case atStart=>exact ⟨0,by omega,rfl,H0.out⟩
 case round =>
  obtain ⟨wo,rfl⟩:∃ wo:World,wo=wr:=⟨_,rfl⟩
  obtain ⟨k,hk,rfl,hj⟩:=hrel
  have HJk:=Lib.hid hj
  obtain ⟨hA,hbN⟩:=HJ.out k wo hj
  have HAk:=Lib.hid hA
  clear hj
  by_cases hlt:k<m.vers.length
  · have hI:(k:Int)<(m.vers.length:Int):=by omega
    have hI0:(0:Int)≤(k:Int):=by omega
    have hvs:=(HM.out.kept (fun _=>(⟨hbN.size,fun b _ hb=>hbN.block b hb⟩:Kept (OldB N) w wo))).vers
    have hcap:=hvs.cap (by omega)
    obtain ⟨b2,o2,ea,hb2,dv,hdv,r0,r1,r2,r3,r4,r5,r6,r7⟩:=hvs.get hlt
    obtain ⟨da,dc,rfl⟩:=hdv.len
    have HSb:=Lib.hid (HS.out _ (List.getElem_mem hlt))
    obtain ⟨y,hy⟩:∃ y,m.vers[k]=y:=⟨_,rfl⟩
    have HSK1:=Lib.hid (HSK.out k wo hlt HJk.out)
    have HCL1:=Lib.hid fun wr hj=>HCL.out k wr hlt hj
    rw [hy] at r0 r1 r2 r3 r4 r5 r6 r7 HSb HSK1 HCL1
    clear hdv hvs hA hbN
    rw [ea]
    have hz:y.sb.toList.isEmpty=true↔y.sb.size=0:=by rw [toList_eq',List.isEmpty_iff,← List.length_eq_zero_iff];simp
    have HZ:=Lib.hid hz
    clear hz
    cases hse:y.sb.toList.isEmpty with
    | true =>
     have HN1:=Lib.hid (HSK1.out (HZ.out.1 hse))
     clear HCL1 HAk HSK1
     go_wp2_with fail
     go_roundw
     case rel=>exact ⟨k+1,by omega,by go_num,HST.out _ _ _ HN1.out (below_al1 wo _)⟩
     case measure=>simp [intOf] <;> omega
    | false =>
     have hpos:0<y.sb.size:=by
       rcases Nat.eq_zero_or_pos y.sb.size with h | h
       · rw [HZ.out.2 h] at hse;cases hse
       · exact h
     go_upto_region 5 with fail
     have HJ1:Hid (J k (wo.alloc (.cells #[.string y.nm,.int .u8 y.kd,.int .i64 y.rg,.int .i64 y.ofv,.string y.en,.string y.ex,.slice da y.df.length dc,.string y.sb] 39))):=Lib.hid (HST.out _ _ _ HJk.out (below_al1 wo _))
     have hc7:(wo.alloc (.cells #[.string y.nm,.int .u8 y.kd,.int .i64 y.rg,.int .i64 y.ofv,.string y.en,.string y.ex,.slice da y.df.length dc,.string y.sb] 39)).cell? ⟨wo.heap.size,7,none⟩=some (.string y.sb):=by
       unfold World.cell?;simp only [World.alloc_heap_new];rfl
     generalize wo.alloc (.cells #[.string y.nm,.int .u8 y.kd,.int .i64 y.rg,.int .i64 y.ofv,.string y.en,.string y.ex,.slice da y.df.length dc,.string y.sb] 39)=W1 at *
     have hA1:=(HJ.out k W1 HJ1.out).1
     have c1:=hA1.c1
     have hlk:=hA1.look HSb.out
     have HB:=Lib.hid fun nq=>HCL1.out (W1.drewN nq) (HST.out _ _ _ HJ1.out (below_drewN (Below.refl _ _) nq)) hpos
     clear hA1 HCL1 HSK1 HAk r0 r1 r2 r3 r4 r5 r6 r7
     cases hf:fnd l y.sb with
     | none =>
      rw [hf] at hlk
      simp only [Option.getD_none,Option.isSome_none] at hlk
      go_quiet (fail)
      have HC:=Lib.hid (HB.out nq)
      rw [fndI_none hf] at HC
      generalize W1.drewN nq=W2 at *
      clear HB hlk hc7 c1
      go_wp2_with fail
      refine HC.out.mono ?_
      rintro e w5 ⟨b,rfl,ht,hf2⟩
      cases b with
      | true =>
       go_wp2_with fail
       go_roundw
       case rel=>exact ⟨k+1,by omega,by go_num,ht trivial⟩
       case measure=>simp [intOf] <;> omega
      | false =>
       go_wp2_with fail
       go_ret
       exact ⟨false,rfl,by simp,fun _=>hf2 trivial⟩
     | some q =>
      rw [hf] at hlk
      simp only [Option.getD_some,Option.isSome_some] at hlk
      go_quiet (fail)
      have HC:=Lib.hid (HB.out nq)
      rw [fndI_some hf] at HC
      generalize W1.drewN nq=W2 at *
      clear HB hlk hc7 c1
      go_wp2_with fail
      refine HC.out.mono ?_
      rintro e w5 ⟨b,rfl,ht,hf2⟩
      cases b with
      | true =>
       go_wp2_with fail
       go_roundw
       case rel=>exact ⟨k+1,by omega,by go_num,ht trivial⟩
       case measure=>simp [intOf] <;> omega
      | false =>
       go_wp2_with fail
       go_ret
       exact ⟨false,rfl,by simp,fun _=>hf2 trivial⟩
  · obtain rfl:k=m.vers.length:=by omega
    go_wp2_with fail
    go_ret
    exact ⟨true,rfl,fun _=>HJk.out,by simp⟩
set_option maxRecDepth 100000 in
set_option maxHeartbeats 4000000 in
theorem usesRe_any (N:Nat) (l:List MdlD) (a:Option Addr) (c LB NB SB cnt:Nat) (m:MdlD) (n:Nat) (B0 B1:Nat) (w:World) (J:Nat→World→Prop) (R:World→Prop) (hn:n<l.length) (hm:l[n]=m) (hl:l.length≤100000) (hv:m.vers.length≤10000) (hs:∀ x ∈ m.vers,x.sb.size≤140737488355328)
   (hJ:∀ k wr,J k wr→LibA N l a c LB NB SB cnt wr∧Below N w wr) (hst:∀ k wr wx,J k wr→Below wr.heap.size wr wx→J k wx)
   (hsk:∀ k wr (h:k<m.vers.length),J k wr→m.vers[k].sb.size=0→J (k+1) wr)
   (hcl:∀ k wr (h:k<m.vers.length),J k wr→0<m.vers[k].sb.size→Calls Tryd.prog 84 #[.int .i64 k,.int .i64 (fndI l (m.vers[k]).sb),.pointer (some (.mk B0 0 none)),.pointer (some (.mk B1 0 none))] wr fun e w'=>∃ b,e=.returned (.bool b)∧(b=true→J (k+1) w')∧(b=false→R w'))
   (h0:J 0 w):Calls Tryd.prog 39 #[.pointer (some ⟨LB,0,none⟩),.int .i64 n,.func (.func 84) #[] #[.pointer (some (.mk B0 0 none)),.pointer (some (.mk B1 0 none))]] w fun e w'=>∃ b,e=.returned (.bool b)∧(b=true→J m.vers.length w')∧(b=false→R w'):=by
 have HJ:=Lib.hid hJ
 have HST:=Lib.hid hst
 have HSK:=Lib.hid hsk
 have HCL:=Lib.hid hcl
 have HS:=Lib.hid hs
 have H0:=Lib.hid h0
 obtain ⟨hA,_⟩:=hJ 0 w h0
 have c0:=hA.c0
 have hla:=hA.lb
 obtain ⟨b1,o1,e1,hb1,ph,hmo,r0,r1,r2,r3,r4,r5⟩:=hA.lib.get hn
 rw [hm] at hmo r0 r1 r2 r3 r4 r5
 subst e1
 have HM:=Lib.hid hmo
 have hnI:(n:Int)<(l.length:Int):=by omega
 have hn0:(0:Int)≤(n:Int):=by omega
 clear hJ hst hsk hcl hs h0 hA hmo
 go_enter Tryd.func39,Tryd.ntmps39
 go_wp2_with fail
 clear r0 r1 r2 r3 r4 r5 c0
 go_loopw [20] (fun i wr=>∃ k:Nat,k≤m.vers.length∧i=.int .i64 k∧J k wr) (fun i _=>m.vers.length - (intOf i).toNat)
 case atStart=>exact ⟨0,by omega,rfl,H0.out⟩
 case round =>
  obtain ⟨wo,rfl⟩:∃ wo:World,wo=wr:=⟨_,rfl⟩
  obtain ⟨k,hk,rfl,hj⟩:=hrel
  have HJk:=Lib.hid hj
  obtain ⟨hA,hbN⟩:=HJ.out k wo hj
  have HAk:=Lib.hid hA
  clear hj
  by_cases hlt:k<m.vers.length
  · have hI:(k:Int)<(m.vers.length:Int):=by omega
    have hI0:(0:Int)≤(k:Int):=by omega
    have hvs:=(HM.out.kept (fun _=>(⟨hbN.size,fun b _ hb=>hbN.block b hb⟩:Kept (OldB N) w wo))).vers
    have hcap:=hvs.cap (by omega)
    obtain ⟨b2,o2,ea,hb2,dv,hdv,r0,r1,r2,r3,r4,r5,r6,r7⟩:=hvs.get hlt
    obtain ⟨da,dc,rfl⟩:=hdv.len
    have HSb:=Lib.hid (HS.out _ (List.getElem_mem hlt))
    obtain ⟨y,hy⟩:∃ y,m.vers[k]=y:=⟨_,rfl⟩
    have HSK1:=Lib.hid (HSK.out k wo hlt HJk.out)
    have HCL1:=Lib.hid fun wr hj=>HCL.out k wr hlt hj
    rw [hy] at r0 r1 r2 r3 r4 r5 r6 r7 HSb HSK1 HCL1
    clear hdv hvs hA hbN
    rw [ea]
    have hz:y.sb.toList.isEmpty=true↔y.sb.size=0:=by rw [toList_eq',List.isEmpty_iff,← List.length_eq_zero_iff];simp
    have HZ:=Lib.hid hz
    clear hz
    cases hse:y.sb.toList.isEmpty with
    | true =>
     have HN1:=Lib.hid (HSK1.out (HZ.out.1 hse))
     clear HCL1 HAk HSK1
     go_wp2_with fail
     go_roundw
     case rel=>exact ⟨k+1,by omega,by go_num,HST.out _ _ _ HN1.out (below_al1 wo _)⟩
     case measure=>simp [intOf] <;> omega
    | false =>
     have hpos:0<y.sb.size:=by
       rcases Nat.eq_zero_or_pos y.sb.size with h | h
       · rw [HZ.out.2 h] at hse;cases hse
       · exact h
     go_upto_region 5 with fail
     have HJ1:Hid (J k (wo.alloc (.cells #[.string y.nm,.int .u8 y.kd,.int .i64 y.rg,.int .i64 y.ofv,.string y.en,.string y.ex,.slice da y.df.length dc,.string y.sb] 39))):=Lib.hid (HST.out _ _ _ HJk.out (below_al1 wo _))
     have hc7:(wo.alloc (.cells #[.string y.nm,.int .u8 y.kd,.int .i64 y.rg,.int .i64 y.ofv,.string y.en,.string y.ex,.slice da y.df.length dc,.string y.sb] 39)).cell? ⟨wo.heap.size,7,none⟩=some (.string y.sb):=by
       unfold World.cell?;simp only [World.alloc_heap_new];rfl
     generalize wo.alloc (.cells #[.string y.nm,.int .u8 y.kd,.int .i64 y.rg,.int .i64 y.ofv,.string y.en,.string y.ex,.slice da y.df.length dc,.string y.sb] 39)=W1 at *
     have hA1:=(HJ.out k W1 HJ1.out).1
     have c1:=hA1.c1
     have hlk:=hA1.look HSb.out
     have HB:=Lib.hid fun nq=>HCL1.out (W1.drewN nq) (HST.out _ _ _ HJ1.out (below_drewN (Below.refl _ _) nq)) hpos
     clear hA1 HCL1 HSK1 HAk r0 r1 r2 r3 r4 r5 r6 r7
     cases hf:fnd l y.sb with
     | none =>
      rw [hf] at hlk
      simp only [Option.getD_none,Option.isSome_none] at hlk
      go_quiet (fail)
      have HC:=Lib.hid (HB.out nq)
      rw [fndI_none hf] at HC
      generalize W1.drewN nq=W2 at *
      clear HB hlk hc7 c1
      go_wp2_with fail
      refine HC.out.mono ?_
      rintro e w5 ⟨b,rfl,ht,hf2⟩
      cases b with
      | true =>
       go_wp2_with fail
       go_roundw
       case rel=>exact ⟨k+1,by omega,by go_num,ht trivial⟩
       case measure=>simp [intOf] <;> omega
      | false =>
       go_wp2_with fail
       go_ret
       exact ⟨false,rfl,by simp,fun _=>hf2 trivial⟩
     | some q =>
      rw [hf] at hlk
      simp only [Option.getD_some,Option.isSome_some] at hlk
      go_quiet (fail)
      have HC:=Lib.hid (HB.out nq)
      rw [fndI_some hf] at HC
      generalize W1.drewN nq=W2 at *
      clear HB hlk hc7 c1
      go_wp2_with fail
      refine HC.out.mono ?_
      rintro e w5 ⟨b,rfl,ht,hf2⟩
      cases b with
      | true =>
       go_wp2_with fail
       go_roundw
       case rel=>exact ⟨k+1,by omega,by go_num,ht trivial⟩
       case measure=>simp [intOf] <;> omega
      | false =>
       go_wp2_with fail
       go_ret
       exact ⟨false,rfl,by simp,fun _=>hf2 trivial⟩
  · obtain rfl:k=m.vers.length:=by omega
    go_wp2_with fail
    go_ret
    exact ⟨true,rfl,fun _=>HJk.out,by simp⟩
set_option maxRecDepth 100000 in
set_option maxHeartbeats 4000000 in
theorem usesSi_any (N:Nat) (l:List MdlD) (a:Option Addr) (c LB NB SB cnt:Nat) (m:MdlD) (n:Nat) (B0 B1 B2:Nat) (w:World) (J:Nat→World→Prop) (R:World→Prop) (hn:n<l.length) (hm:l[n]=m) (hl:l.length≤100000) (hv:m.vers.length≤10000) (hs:∀ x ∈ m.vers,x.sb.size≤140737488355328)
   (hJ:∀ k wr,J k wr→LibA N l a c LB NB SB cnt wr∧Below N w wr) (hst:∀ k wr wx,J k wr→Below wr.heap.size wr wx→J k wx)
   (hsk:∀ k wr (h:k<m.vers.length),J k wr→m.vers[k].sb.size=0→J (k+1) wr)
   (hcl:∀ k wr (h:k<m.vers.length),J k wr→0<m.vers[k].sb.size→Calls Tryd.prog 70 #[.int .i64 k,.int .i64 (fndI l (m.vers[k]).sb),.pointer (some (.mk B0 0 none)),.pointer (some (.mk B1 0 none)),.pointer (some (.mk B2 0 none))] wr fun e w'=>∃ b,e=.returned (.bool b)∧(b=true→J (k+1) w')∧(b=false→R w'))
   (h0:J 0 w):Calls Tryd.prog 39 #[.pointer (some ⟨LB,0,none⟩),.int .i64 n,.func (.func 70) #[] #[.pointer (some (.mk B0 0 none)),.pointer (some (.mk B1 0 none)),.pointer (some (.mk B2 0 none))]] w fun e w'=>∃ b,e=.returned (.bool b)∧(b=true→J m.vers.length w')∧(b=false→R w'):=by
 have HJ:=Lib.hid hJ
 have HST:=Lib.hid hst
 have HSK:=Lib.hid hsk
 have HCL:=Lib.hid hcl
 have HS:=Lib.hid hs
 have H0:=Lib.hid h0
 obtain ⟨hA,_⟩:=hJ 0 w h0
 have c0:=hA.c0
 have hla:=hA.lb
 obtain ⟨b1,o1,e1,hb1,ph,hmo,r0,r1,r2,r3,r4,r5⟩:=hA.lib.get hn
 rw [hm] at hmo r0 r1 r2 r3 r4 r5
 subst e1
 have HM:=Lib.hid hmo
 have hnI:(n:Int)<(l.length:Int):=by omega
 have hn0:(0:Int)≤(n:Int):=by omega
 clear hJ hst hsk hcl hs h0 hA hmo
 go_enter Tryd.func39,Tryd.ntmps39
 go_wp2_with fail
 clear r0 r1 r2 r3 r4 r5 c0
 go_loopw [20] (fun i wr=>∃ k:Nat,k≤m.vers.length∧i=.int .i64 k∧J k wr) (fun i _=>m.vers.length - (intOf i).toNat)
 case atStart=>exact ⟨0,by omega,rfl,H0.out⟩
 case round =>
  obtain ⟨wo,rfl⟩:∃ wo:World,wo=wr:=⟨_,rfl⟩
  obtain ⟨k,hk,rfl,hj⟩:=hrel
  have HJk:=Lib.hid hj
  obtain ⟨hA,hbN⟩:=HJ.out k wo hj
  have HAk:=Lib.hid hA
  clear hj
  by_cases hlt:k<m.vers.length
  · have hI:(k:Int)<(m.vers.length:Int):=by omega
    have hI0:(0:Int)≤(k:Int):=by omega
    have hvs:=(HM.out.kept (fun _=>(⟨hbN.size,fun b _ hb=>hbN.block b hb⟩:Kept (OldB N) w wo))).vers
    have hcap:=hvs.cap (by omega)
    obtain ⟨b2,o2,ea,hb2,dv,hdv,r0,r1,r2,r3,r4,r5,r6,r7⟩:=hvs.get hlt
    obtain ⟨da,dc,rfl⟩:=hdv.len
    have HSb:=Lib.hid (HS.out _ (List.getElem_mem hlt))
    obtain ⟨y,hy⟩:∃ y,m.vers[k]=y:=⟨_,rfl⟩
    have HSK1:=Lib.hid (HSK.out k wo hlt HJk.out)
    have HCL1:=Lib.hid fun wr hj=>HCL.out k wr hlt hj
    rw [hy] at r0 r1 r2 r3 r4 r5 r6 r7 HSb HSK1 HCL1
    clear hdv hvs hA hbN
    rw [ea]
    have hz:y.sb.toList.isEmpty=true↔y.sb.size=0:=by rw [toList_eq',List.isEmpty_iff,← List.length_eq_zero_iff];simp
    have HZ:=Lib.hid hz
    clear hz
    cases hse:y.sb.toList.isEmpty with
    | true =>
     have HN1:=Lib.hid (HSK1.out (HZ.out.1 hse))
     clear HCL1 HAk HSK1
     go_wp2_with fail
     go_roundw
     case rel=>exact ⟨k+1,by omega,by go_num,HST.out _ _ _ HN1.out (below_al1 wo _)⟩
     case measure=>simp [intOf] <;> omega
    | false =>
     have hpos:0<y.sb.size:=by
       rcases Nat.eq_zero_or_pos y.sb.size with h | h
       · rw [HZ.out.2 h] at hse;cases hse
       · exact h
     go_upto_region 5 with fail
     have HJ1:Hid (J k (wo.alloc (.cells #[.string y.nm,.int .u8 y.kd,.int .i64 y.rg,.int .i64 y.ofv,.string y.en,.string y.ex,.slice da y.df.length dc,.string y.sb] 39))):=Lib.hid (HST.out _ _ _ HJk.out (below_al1 wo _))
     have hc7:(wo.alloc (.cells #[.string y.nm,.int .u8 y.kd,.int .i64 y.rg,.int .i64 y.ofv,.string y.en,.string y.ex,.slice da y.df.length dc,.string y.sb] 39)).cell? ⟨wo.heap.size,7,none⟩=some (.string y.sb):=by
       unfold World.cell?;simp only [World.alloc_heap_new];rfl
     generalize wo.alloc (.cells #[.string y.nm,.int .u8 y.kd,.int .i64 y.rg,.int .i64 y.ofv,.string y.en,.string y.ex,.slice da y.df.length dc,.string y.sb] 39)=W1 at *
     have hA1:=(HJ.out k W1 HJ1.out).1
     have c1:=hA1.c1
     have hlk:=hA1.look HSb.out
     have HB:=Lib.hid fun nq=>HCL1.out (W1.drewN nq) (HST.out _ _ _ HJ1.out (below_drewN (Below.refl _ _) nq)) hpos
     clear hA1 HCL1 HSK1 HAk r0 r1 r2 r3 r4 r5 r6 r7
     cases hf:fnd l y.sb with
     | none =>
      rw [hf] at hlk
      simp only [Option.getD_none,Option.isSome_none] at hlk
      go_quiet (fail)
      have HC:=Lib.hid (HB.out nq)
      rw [fndI_none hf] at HC
      generalize W1.drewN nq=W2 at *
      clear HB hlk hc7 c1
      go_wp2_with fail
      refine HC.out.mono ?_
      rintro e w5 ⟨b,rfl,ht,hf2⟩
      cases b with
      | true =>
       go_wp2_with fail
       go_roundw
       case rel=>exact ⟨k+1,by omega,by go_num,ht trivial⟩
       case measure=>simp [intOf] <;> omega
      | false =>
       go_wp2_with fail
       go_ret
       exact ⟨false,rfl,by simp,fun _=>hf2 trivial⟩
     | some q =>
      rw [hf] at hlk
      simp only [Option.getD_some,Option.isSome_some] at hlk
      go_quiet (fail)
      have HC:=Lib.hid (HB.out nq)
      rw [fndI_some hf] at HC
      generalize W1.drewN nq=W2 at *
      clear HB hlk hc7 c1
      go_wp2_with fail
      refine HC.out.mono ?_
      rintro e w5 ⟨b,rfl,ht,hf2⟩
      cases b with
      | true =>
       go_wp2_with fail
       go_roundw
       case rel=>exact ⟨k+1,by omega,by go_num,ht trivial⟩
       case measure=>simp [intOf] <;> omega
      | false =>
       go_wp2_with fail
       go_ret
       exact ⟨false,rfl,by simp,fun _=>hf2 trivial⟩
  · obtain rfl:k=m.vers.length:=by omega
    go_wp2_with fail
    go_ret
    exact ⟨true,rfl,fun _=>HJk.out,by simp⟩
set_option maxRecDepth 100000 in
set_option maxHeartbeats 4000000 in
theorem usesEx_any (N:Nat) (l:List MdlD) (a:Option Addr) (c LB NB SB cnt:Nat) (m:MdlD) (n:Nat) (B0 B1 B2:Nat) (w:World) (J:Nat→World→Prop) (R:World→Prop) (hn:n<l.length) (hm:l[n]=m) (hl:l.length≤100000) (hv:m.vers.length≤10000) (hs:∀ x ∈ m.vers,x.sb.size≤140737488355328)
   (hJ:∀ k wr,J k wr→LibA N l a c LB NB SB cnt wr∧Below N w wr) (hst:∀ k wr wx,J k wr→Below wr.heap.size wr wx→J k wx)
   (hsk:∀ k wr (h:k<m.vers.length),J k wr→m.vers[k].sb.size=0→J (k+1) wr)
   (hcl:∀ k wr (h:k<m.vers.length),J k wr→0<m.vers[k].sb.size→Calls Tryd.prog 40 #[.int .i64 k,.int .i64 (fndI l (m.vers[k]).sb),.pointer (some (.mk B0 0 none)),.pointer (some (.mk B1 0 none)),.pointer (some (.mk B2 0 none))] wr fun e w'=>∃ b,e=.returned (.bool b)∧(b=true→J (k+1) w')∧(b=false→R w'))
   (h0:J 0 w):Calls Tryd.prog 39 #[.pointer (some ⟨LB,0,none⟩),.int .i64 n,.func (.func 40) #[] #[.pointer (some (.mk B0 0 none)),.pointer (some (.mk B1 0 none)),.pointer (some (.mk B2 0 none))]] w fun e w'=>∃ b,e=.returned (.bool b)∧(b=true→J m.vers.length w')∧(b=false→R w'):=by
 have HJ:=Lib.hid hJ
 have HST:=Lib.hid hst
 have HSK:=Lib.hid hsk
 have HCL:=Lib.hid hcl
 have HS:=Lib.hid hs
 have H0:=Lib.hid h0
 obtain ⟨hA,_⟩:=hJ 0 w h0
 have c0:=hA.c0
 have hla:=hA.lb
 obtain ⟨b1,o1,e1,hb1,ph,hmo,r0,r1,r2,r3,r4,r5⟩:=hA.lib.get hn
 rw [hm] at hmo r0 r1 r2 r3 r4 r5
 subst e1
 have HM:=Lib.hid hmo
 have hnI:(n:Int)<(l.length:Int):=by omega
 have hn0:(0:Int)≤(n:Int):=by omega
 clear hJ hst hsk hcl hs h0 hA hmo
 go_enter Tryd.func39,Tryd.ntmps39
 go_wp2_with fail
 clear r0 r1 r2 r3 r4 r5 c0
 go_loopw [20] (fun i wr=>∃ k:Nat,k≤m.vers.length∧i=.int .i64 k∧J k wr) (fun i _=>m.vers.length - (intOf i).toNat)
 case atStart=>exact ⟨0,by omega,rfl,H0.out⟩
 case round =>
  obtain ⟨wo,rfl⟩:∃ wo:World,wo=wr:=⟨_,rfl⟩
  obtain ⟨k,hk,rfl,hj⟩:=hrel
  have HJk:=Lib.hid hj
  obtain ⟨hA,hbN⟩:=HJ.out k wo hj
  have HAk:=Lib.hid hA
  clear hj
  by_cases hlt:k<m.vers.length
  · have hI:(k:Int)<(m.vers.length:Int):=by omega
    have hI0:(0:Int)≤(k:Int):=by omega
    have hvs:=(HM.out.kept (fun _=>(⟨hbN.size,fun b _ hb=>hbN.block b hb⟩:Kept (OldB N) w wo))).vers
    have hcap:=hvs.cap (by omega)
    obtain ⟨b2,o2,ea,hb2,dv,hdv,r0,r1,r2,r3,r4,r5,r6,r7⟩:=hvs.get hlt
    obtain ⟨da,dc,rfl⟩:=hdv.len
    have HSb:=Lib.hid (HS.out _ (List.getElem_mem hlt))
    obtain ⟨y,hy⟩:∃ y,m.vers[k]=y:=⟨_,rfl⟩
    have HSK1:=Lib.hid (HSK.out k wo hlt HJk.out)
    have HCL1:=Lib.hid fun wr hj=>HCL.out k wr hlt hj
    rw [hy] at r0 r1 r2 r3 r4 r5 r6 r7 HSb HSK1 HCL1
    clear hdv hvs hA hbN
    rw [ea]
    have hz:y.sb.toList.isEmpty=true↔y.sb.size=0:=by rw [toList_eq',List.isEmpty_iff,← List.length_eq_zero_iff];simp
    have HZ:=Lib.hid hz
    clear hz
    cases hse:y.sb.toList.isEmpty with
    | true =>
     have HN1:=Lib.hid (HSK1.out (HZ.out.1 hse))
     clear HCL1 HAk HSK1
     go_wp2_with fail
     go_roundw
     case rel=>exact ⟨k+1,by omega,by go_num,HST.out _ _ _ HN1.out (below_al1 wo _)⟩
     case measure=>simp [intOf] <;> omega
    | false =>
     have hpos:0<y.sb.size:=by
       rcases Nat.eq_zero_or_pos y.sb.size with h | h
       · rw [HZ.out.2 h] at hse;cases hse
       · exact h
     go_upto_region 5 with fail
     have HJ1:Hid (J k (wo.alloc (.cells #[.string y.nm,.int .u8 y.kd,.int .i64 y.rg,.int .i64 y.ofv,.string y.en,.string y.ex,.slice da y.df.length dc,.string y.sb] 39))):=Lib.hid (HST.out _ _ _ HJk.out (below_al1 wo _))
     have hc7:(wo.alloc (.cells #[.string y.nm,.int .u8 y.kd,.int .i64 y.rg,.int .i64 y.ofv,.string y.en,.string y.ex,.slice da y.df.length dc,.string y.sb] 39)).cell? ⟨wo.heap.size,7,none⟩=some (.string y.sb):=by
       unfold World.cell?;simp only [World.alloc_heap_new];rfl
     generalize wo.alloc (.cells #[.string y.nm,.int .u8 y.kd,.int .i64 y.rg,.int .i64 y.ofv,.string y.en,.string y.ex,.slice da y.df.length dc,.string y.sb] 39)=W1 at *
     have hA1:=(HJ.out k W1 HJ1.out).1
     have c1:=hA1.c1
     have hlk:=hA1.look HSb.out
     have HB:=Lib.hid fun nq=>HCL1.out (W1.drewN nq) (HST.out _ _ _ HJ1.out (below_drewN (Below.refl _ _) nq)) hpos
     clear hA1 HCL1 HSK1 HAk r0 r1 r2 r3 r4 r5 r6 r7
     cases hf:fnd l y.sb with
     | none =>
      rw [hf] at hlk
      simp only [Option.getD_none,Option.isSome_none] at hlk
      go_quiet (fail)
      have HC:=Lib.hid (HB.out nq)
      rw [fndI_none hf] at HC
      generalize W1.drewN nq=W2 at *
      clear HB hlk hc7 c1
      go_wp2_with fail
      refine HC.out.mono ?_
      rintro e w5 ⟨b,rfl,ht,hf2⟩
      cases b with
      | true =>
       go_wp2_with fail
       go_roundw
       case rel=>exact ⟨k+1,by omega,by go_num,ht trivial⟩
       case measure=>simp [intOf] <;> omega
      | false =>
       go_wp2_with fail
       go_ret
       exact ⟨false,rfl,by simp,fun _=>hf2 trivial⟩
     | some q =>
      rw [hf] at hlk
      simp only [Option.getD_some,Option.isSome_some] at hlk
      go_quiet (fail)
      have HC:=Lib.hid (HB.out nq)
      rw [fndI_some hf] at HC
      generalize W1.drewN nq=W2 at *
      clear HB hlk hc7 c1
      go_wp2_with fail
      refine HC.out.mono ?_
      rintro e w5 ⟨b,rfl,ht,hf2⟩
      cases b with
      | true =>
       go_wp2_with fail
       go_roundw
       case rel=>exact ⟨k+1,by omega,by go_num,ht trivial⟩
       case measure=>simp [intOf] <;> omega
      | false =>
       go_wp2_with fail
       go_ret
       exact ⟨false,rfl,by simp,fun _=>hf2 trivial⟩
  · obtain rfl:k=m.vers.length:=by omega
    go_wp2_with fail
    go_ret
    exact ⟨true,rfl,fun _=>HJk.out,by simp⟩
end Go.Proofs
