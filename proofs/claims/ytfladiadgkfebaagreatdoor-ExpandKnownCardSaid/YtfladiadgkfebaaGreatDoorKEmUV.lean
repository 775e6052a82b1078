/- Walks: 'wrong' of the program's expand. -/
import Derived.Test.YtfladiadgkfebaaGreatDoorKEmOQ
import Derived.Test.YtfladiadgkfebaaGreatDoorKEmT
import Derived.Test.YtfladiadgkfebaaGreatDoorKEmN
namespace Go.Md
open Go.RowKit Go.Lx Go.Proofs
open Lib(hid)
set_option maxRecDepth 100000
set_option maxHeartbeats 0
set_option linter.unusedVariables false
theorem fndF_app {s:ByteArray}:∀ (l1 l2:List MdlD) (i:Nat),fndF s i (l1 ++ l2)=(match fndF s i l1 with | some n=>some n | none=>fndF s (i+l1.length) l2)
 | [],l2,i=>by simp [fndF]
 | m :: t,l2,i=>by
   rw [List.cons_append,fndF,fndF]
   by_cases h:eqS m.nm s=true
   . rw [if_pos h,if_pos h]
   . rw [if_neg h,if_neg h,fndF_app t l2 (i+1),List.length_cons,show i+1+t.length=i+(t.length+1) by omega]
theorem fndF_any {s:ByteArray}:∀ (l:List MdlD) (i:Nat),(fndF s i l).isSome=l.any fun m=>eqS m.nm s
 | [],i=>rfl
 | m :: t,i=>by
   rw [fndF,List.any_cons]
   by_cases h:eqS m.nm s=true
   . rw [if_pos h,h];rfl
   . have h':eqS m.nm s=false:=by simpa using h
     rw [if_neg h,fndF_any t,h',Bool.false_or]
theorem fnd_take {l:List MdlD} {i:Nat} (h:i<l.length) (s:ByteArray):fnd (l.take (i+1)) s=(match fnd (l.take i) s with | some n=>some n | none=>if eqS l[i].nm s then some i else none):=by
 unfold fnd
 rw [List.take_succ_eq_append_getElem h,fndF_app]
 have:0+(l.take i).length=i:=by rw [List.length_take];omega
 rw [this]
 rfl
theorem ahd_is {l:List MdlD} {i:Nat} (h:i<l.length):ahd l i=(fnd (l.take i) l[i].nm).isSome:=by
 unfold ahd fnd
 rw [fndF_any,List.getD_eq_getElem?_getD,List.getElem?_eq_getElem h]
 rfl
theorem fnd_next {l:List MdlD} {i:Nat} (h:i<l.length) (ha:ahd l i=false) (s:ByteArray):fnd (l.take (i+1)) s=if s=l[i].nm then some i else fnd (l.take i) s:=by
 rw [fnd_take h]
 by_cases e:s=l[i].nm
 . subst e
   rw [ahd_is h] at ha
   cases hf:fnd (l.take i) l[i].nm with
   | some n=>rw [hf] at ha;cases ha
   | none=>rw [if_pos rfl,if_pos (eqS_refl _)]
 . rw [if_neg e,if_neg (fun h'=>e (eqS_iff.1 h').symm)]
   cases fnd (l.take i) s <;> rfl
theorem w1_right {l:List MdlD} {i:Nat} (h:i<l.length):w1 l i=if (riM l[i]).2.2≠0 then (riM l[i]).2.2 else if ahd l i then 180 else 0:=by
 unfold w1
 have:l.getD i D0=l[i]:=by rw [List.getD_eq_getElem?_getD,List.getElem?_eq_getElem h];rfl
 rw [this]
theorem w2_at {l:List MdlD} {i:Nat} (h:i<l.length):w2 l i=if tiedM l l[i] then 0 else 180:=by
 unfold w2
 have:l.getD i D0=l[i]:=by rw [List.getD_eq_getElem?_getD,List.getElem?_eq_getElem h];rfl
 rw [this]
theorem w1_zero {l:List MdlD} (h:∀ j,j<l.length->w1 l j=0):∀ m ∈ l,riM m=(0,0,0):=fun m hm=>by
 obtain ⟨k,hk,rfl⟩:=List.getElem_of_mem hm
 have:=h k hk
 rw [w1_right hk] at this
 split at this
 . omega
 . rename_i h0
   exact riM_ok (by omega)
theorem w2_zero {l:List MdlD} (h:∀ j,j<l.length->w2 l j=0):∀ m ∈ l,tiedM l m=true:=fun m hm=>by
 obtain ⟨k,hk,rfl⟩:=List.getElem_of_mem hm
 have:=h k hk
 rw [w2_at hk] at this
 split at this
 . assumption
 . omega
theorem w3_zero {l:List MdlD} (h:∀ j,j<l.length->w3 l j=0) (i:Nat):¬ Rch l i i:=fun hr=>by
 have:=h i hr.lt.1
 unfold w3 at this
 rw [if_pos (rB_iff.2 hr)] at this
 omega
theorem wrg1 {l:List MdlD} {k:Nat} (h:∀ j,j<k->w1 l j=0) (hk:k<l.length) (h0:w1 l k≠0):wrgM l=(k,w1 l k):=by
 unfold wrgM orB
 rw [frsF_hit h hk h0,if_neg h0]
theorem wrg2 {l:List MdlD} {k:Nat} (h1:∀ j,j<l.length->w1 l j=0) (h:∀ j,j<k->w2 l j=0) (hk:k<l.length) (h0:w2 l k≠0):wrgM l=(k,w2 l k):=by
 unfold wrgM orB
 rw [frsF_none h1,if_pos rfl,frsF_hit h hk h0,if_neg h0]
theorem wrg3 {l:List MdlD} {k:Nat} (h1:∀ j,j<l.length->w1 l j=0) (h2:∀ j,j<l.length->w2 l j=0) (h:∀ j,j<k->w3 l j=0) (hk:k<l.length) (h0:w3 l k≠0):wrgM l=(k,w3 l k):=by
 unfold wrgM orB
 rw [frsF_none h1,if_pos rfl,frsF_none h2,if_pos rfl,frsF_hit h hk h0,if_neg h0]
theorem wrg4 {l:List MdlD} (h1:∀ j,j<l.length->w1 l j=0) (h2:∀ j,j<l.length->w2 l j=0) (h3:∀ j,j<l.length->w3 l j=0):wrgM l=if manyS (sizF l l.length 0) then (0,3) else (0,0):=by
 unfold wrgM orB
 rw [frsF_none h1,if_pos rfl,frsF_none h2,if_pos rfl,frsF_none h3,if_pos rfl]
theorem step_zero {f:Nat->Nat} {k:Nat} (h:∀ j,j<k->f j=0) (h0:f k=0):∀ j,j<k+1->f j=0:=fun j hj=>by
 by_cases e:j=k
 . subst e;exact h0
 . exact h j (by omega)
end Go.Md
namespace Go.Proofs
open Go.RowKit Go.Lx Go.Md Go.Maps Go.BigFrame Go.Rgi
open Lib(hid)
set_option maxRecDepth 100000
set_option maxHeartbeats 0
set_option linter.unusedVariables false
structure WrS (N:Nat) (l:List MdlD) (a:Option Addr) (c LB NB SB i:Nat) (w0 w:World):Prop where
 c0:w.cell? ⟨LB,0,none⟩=some (.slice a l.length c)
 c1:w.cell? ⟨LB,1,none⟩=some (.map (some NB))
 c2:w.cell? ⟨LB,2,none⟩=some (.map (some SB))
 lib:LibV N w (.slice a l.length c) l
 nam:NamAt NB i (nmF (l.take i)) w
 siz:SizAt SB 0 (fun _=>none) w
 fr:Fr2 NB SB w0 w
theorem WrS.below {N:Nat} {l:List MdlD} {a:Option Addr} {c LB NB SB i:Nat} {w0 w w':World} (h:WrS N l a c LB NB SB i w0 w) (hn:N<=w.heap.size) (g:Below w.heap.size w w'):WrS N l a c LB NB SB i w0 w' :=
 have hl:=World.block_lt_of_cell? w _ h.c0
 ⟨(g.cell (p:=⟨LB,0,none⟩) hl).trans h.c0,(g.cell (p:=⟨LB,1,none⟩) hl).trans h.c1,(g.cell (p:=⟨LB,2,none⟩) hl).trans h.c2,h.lib.below (g.mono hn),h.nam.keep (g.block _ h.nam.lt),h.siz.keep (g.block _ h.siz.lt),h.fr.trans (Fr2.of_below g)⟩
theorem WrS.note {N:Nat} {l:List MdlD} {a:Option Addr} {c LB NB SB i:Nat} {w0 w w':World} (h:WrS N l a c LB NB SB i w0 w) (hN:N<=NB) (hLN:LB≠NB) (hSN:SB≠NB) (g:w.grownBy w' (some NB)) (hn:NamAt NB (i+1) (nmF (l.take (i+1))) w'):WrS N l a c LB NB SB (i+1) w0 w' :=
 have hb:Below N w w':=⟨g.os,g.tape,g.output,g.size,fun b hb=>g.block b (by have:=h.nam.lt;omega) (by intro e;injection e with e;omega)⟩
 have hc:∀ o u,w.cell? ⟨LB,o,none⟩=some u->w'.cell? ⟨LB,o,none⟩=some u:=fun o u hu=>g.cell hu (by intro e;injection e with e;exact hLN e)
 ⟨hc _ _ h.c0,hc _ _ h.c1,hc _ _ h.c2,h.lib.below hb,hn,h.siz.keep (g.block _ h.siz.lt (by intro e;injection e with e;exact hSN e)),h.fr.trans (Fr2.of_grown g)⟩
theorem nmF_next {l:List MdlD} {i:Nat} (h:i<l.length) (ha:ahd l i=false):nmF (l.take (i+1))=fun t=>if t=l[i].nm then some (.int .i64 i) else nmF (l.take i) t:=by
 funext t
 unfold nmF
 rw [fnd_next h ha]
 by_cases e:t=l[i].nm
 . rw [if_pos e,if_pos e];rfl
 . rw [if_neg e,if_neg e]
theorem nam_lookT {l:List MdlD} {NB cnt:Nat} {w:World} (h:NamAt NB cnt (nmF l) w) {s:ByteArray} (hs:s.size<=140737488355328) (n:Nat):(Instr.lookup 73 (.map (some NB)) (.string s) true).run Tryz.prog (w.drewN n)=.ok (.tuple #[.int .i64 ((fnd l s).getD 0:Nat),.bool (fnd l s).isSome]) (w.drewN n) :=
 nam_look (h.keep (by rw [World.heap_drewN])) hs
theorem LibR.found {l:List MdlD} (h:LibR l):∀ x ∈ l,∀ y ∈ x.vers,0<y.sb.size->∃ q,fnd l y.sb=some q:=fun x hx y hy h0=>by
 obtain ⟨s,hs,rfl⟩:=List.getElem_of_mem hy
 obtain ⟨n,hn,_⟩:=h.use hx hs h0
 exact ⟨n,hn⟩
def LbS (N:Nat) (l:List MdlD) (a:Option Addr) (c LB NB SB:Nat) (w0 w:World):Prop:=LibA N l a c LB NB SB l.length w/\SizAt SB 0 (fun _=>none) w/\Fr2 NB SB w0 w
theorem LbS.below {N:Nat} {l:List MdlD} {a:Option Addr} {c LB NB SB:Nat} {w0 w w':World} (h:LbS N l a c LB NB SB w0 w) (g:Below w.heap.size w w'):LbS N l a c LB NB SB w0 w':=⟨h.1.below g,h.2.1.keep (g.block _ h.2.1.lt),h.2.2.trans (Fr2.of_below g)⟩
def WrongP (N:Nat) (l:List MdlD) (a:Option Addr) (c LB NB SB:Nat) (w:World) (e:Ending) (w':World):Prop:=e=.returned (.tuple #[.int .i64 ((wrgM l).1:Nat),.int .i64 ((wrgM l).2:Nat)])/\Fr2 NB SB w w'/\((wrgM l).2=0->(∃ cnt,LibA N l a c LB NB SB cnt w')/\LibP l/\Smal l 0)
theorem wrong_any (N:Nat) (l:List MdlD) (a:Option Addr) (c LB NB SB:Nat) (w:World) (hll:l.length<=100) (hl0:0<l.length) (hok:∀ m ∈ l,MdlOk m/\Prt m) (hT:∀ wx,Below N w wx->Tab wx) (hN:N<=NB) (hN2:N<=SB) (hNw:N<=w.heap.size) (h1:LB≠NB) (h2:LB≠SB) (h3:SB≠NB) (hW:WrS N l a c LB NB SB 0 w w) :
   Calls Tryz.prog 28 #[.pointer (some ⟨LB,0,none⟩)] w (WrongP N l a c LB NB SB w):=by
 have HW:=hid hW
 have hc0:=hW.c0
 have HT:=hid hT
 have HOK:=hid hok
 have hsz:SB<w.heap.size:=hW.siz.lt
 clear hW hT hok
 go_enter Tryz.func28,Tryz.ntmps28
 go_wp2_with fail
 go_loopw [18] (fun i wr=>∃ k:Nat,k<=l.length/\i=.int .i64 k/\WrS N l a c LB NB SB k w wr/\Hid (∀ j,j<k->w1 l j=0)) (fun i _=>l.length - (intOf i).toNat)
 case atStart=>exact ⟨0,by omega,rfl,HW.o,fun j hj=>absurd hj (Nat.not_lt_zero _)⟩
 case round =>
  clear HW hc0
  obtain ⟨wo,rfl⟩:=ex1 wr
  obtain ⟨k,hk,rfl,hw,HZ⟩:=hrel
  have HW:=hid hw
  have hnw:N<=wo.heap.size:=by have:=hw.fr.size;omega
  have hc0:=hw.c0
  have hlb:=World.block_lt_of_cell? wo _ hw.c0
  by_cases hlt:k<l.length
  . have hkI:(k:Int)<(l.length:Int):=by omega
    have hk0:(0:Int)<=(k:Int):=by omega
    obtain ⟨m,hm⟩:=ex2 (l[k])
    obtain ⟨b1,o1,e1,hb1,pm,hmo,r0,r1,r2,r3,r4,r5⟩:=hw.lib.get hlt
    rw [hm] at hmo r0 r1 r2 r3 r4 r5
    have hmk:=(HOK.o _ (List.getElem_mem hlt)).1
    rw [hm] at hmk
    have hW1:=w1_right hlt
    rw [hm] at hW1
    have hAh:=ahd_is hlt
    rw [hm] at hAh
    have HNx:=hid fun ha=>nmF_next hlt ha
    rw [hm] at HNx
    have HW1:=hid hW1
    have HAh:=hid hAh
    have hB1:Below wo.heap.size wo (wo.alloc (mBox m pm)):=below_al1 wo _
    have hFr1:=hw.fr.trans (Fr2.of_below (S:=NB) (T:=SB) hB1)
    have HRi:=hid (right_any m pm (wo.alloc (mBox m pm)) (hmo.keptN (hB1.mono hnw)) (HT.o _ ⟨hFr1.os,hFr1.tape,hFr1.output,hFr1.size,fun b hb=>hFr1.block b (by omega) (by omega) (by omega)⟩) hmk)
    unfold mdV mBox at HRi
    have hW2:=hw.below hnw hB1
    have hX2:=World.alloc_heap_new wo (mBox m pm)
    unfold mBox at hW2 hX2
    have HW2:=hid hW2
    have HX2:=hid hX2
    have hnm:m.nm.size<=140737488355328:=hmk.nm
    subst e1
    clear hmo hw hW1 hAh hB1 hFr1 hW2 hX2 hmk
    go_upto_region 4 with fail
    have hz2:wo.heap.size<(wo.alloc (.cells #[.string m.nm,.slice pm.a1 m.vars.length pm.c1,.slice pm.a2 m.evs.length pm.c2,.slice pm.a3 m.regs.length pm.c3,.slice pm.a4 m.vers.length pm.c4,.slice pm.a5 m.trns.length pm.c5] 42)).heap.size:=by simp
    generalize wo.alloc (.cells #[.string m.nm,.slice pm.a1 m.vars.length pm.c1,.slice pm.a2 m.evs.length pm.c2,.slice pm.a3 m.regs.length pm.c3,.slice pm.a4 m.vers.length pm.c4,.slice pm.a5 m.trns.length pm.c5] 42)=W2 at *
    clear r0 r1 r2 r3 r4 r5 hc0
    obtain ⟨x0,x1,x2,x3,x4,x5,_⟩:=mBox.box HX2.o
    obtain ⟨er,her⟩:=ex2 ((riM m).2.2)
    rw [her] at HRi HW1
    by_cases he:er=0
    . subst he
      rw [if_neg (by simp)] at HW1
      go_upto_region 7 with ((with_reducible refine (HRi.o).mono ?_);rintro e w3 ⟨rfl,g3⟩)
      have hW3:=HW2.o.below (by omega) g3
      have hX3:=(g3.block _ hz2).trans HX2.o
      have hz3:wo.heap.size<w3.heap.size:=Nat.lt_of_lt_of_le hz2 g3.size
      obtain ⟨x0,x1,x2,x3,x4,x5,_⟩:=mBox.box hX3
      have hc1:=hW3.c1
      have hlk:=nam_lookT hW3.nam hnm
      have HW3:=hid hW3
      have HX3:=hid hX3
      clear hW3 hX3 g3 HRi HW2 HX2
      cases hf:fnd (l.take k) m.nm with
      | some q =>
       rw [hf] at hlk
       simp only [Option.getD_some,Option.isSome_some] at hlk
       have hF:Hid (wrgM l=(k,180)):=hid (by
         have h180:w1 l k=180:=by rw [HW1.o,HAh.o,hf];rfl
         rw [wrg1 HZ.o hlt (by rw [h180];decide),h180])
       clear hf
       go_quiet (fail)
       go_wp2_with fail
       refine bodyPost_ret (results_tmp2 rfl _ _ _) rfl ⟨by rw [hF.o];rfl,HW3.o.fr.trans (Fr2.of_below (below_drewN (Below.refl _ _) nq)),fun h=>by rw [hF.o] at h;exact absurd h (show ¬ (180=0) by decide)⟩
      | none =>
       rw [hf] at hlk
       simp only [Option.getD_none,Option.isSome_none] at hlk
       have hA:ahd l k=false:=by rw [HAh.o,hf];rfl
       have HZ1:Hid (∀ j,j<k+1->w1 l j=0):=hid (step_zero HZ.o (by rw [HW1.o,hA];rfl))
       have HNk:=hid (HNx.o hA)
       clear hf hA
       go_quiet (fail)
       have hW4:=HW3.o.below (by omega) (below_drewN (Below.refl _ w3) nq)
       have hX4:=((below_drewN (Below.refl _ w3) nq).block _ hz3).trans HX3.o
       have hz4:wo.heap.size<(w3.drewN nq).heap.size:=by rw [World.heap_drewN];exact hz3
       generalize w3.drewN nq=W4 at *
       clear hlk x0 x1 x2 x3 x4 x5 hc1 HW3 HX3
       have hcl:k<100000:=by omega
       obtain ⟨w5,e5,h5,g5⟩:=MapG.put (T:=73) (E:=3) (hW4.nam.keep (w':=W4.drew) rfl) str_key Tryz.underlying73 hcl klS_inj (fun _=>trivial) (s:=m.nm) (key:=.string m.nm) (WideMaps.keyOf_string_mk Tryz.underlying9 (by unfold maxLen;omega)) (.int .i64 k)
       rw [<- HNk.o] at h5
       have hW5:=(hW4.below (by omega) (Below.refl _ W4).drew).note hN h1 h3 g5 h5
       have HS:Hid (∀ W',Below W4.heap.size W4 W'->W'.cell? ⟨LB,1,none⟩=some (.map (some NB))/\W'.cell? ⟨wo.heap.size,0,none⟩=some (.string m.nm)):=hid fun W' gg =>
         ⟨(gg.cell (p:=⟨LB,1,none⟩) (World.block_lt_of_cell? W4 _ hW4.c1)).trans hW4.c1,(gg.cell (p:=⟨wo.heap.size,0,none⟩) hz4).trans (mBox.box hX4).c0⟩
       have hB0:Below W4.heap.size W4 W4:=Below.refl _ _
       have HW5:=hid hW5
       clear hW4 hX4 h5 g5 hW5
       go_wp2_with fail
       refine wp_region_any (by kernel_rfl) ?_
       change wpAny _ _ _ _ _ _ _ (World.drew _)
       refine wpAny_sink (n:=7) (o:=⟨none,.mapUpdate 73 (.tmp 48) (.tmp 50) (.tmp 51),0, "expand.go:182", #[⟨3,.data⟩,⟨5,.data⟩,⟨6,.data⟩,⟨0,.phase⟩,⟨1,.phase⟩,⟨2,.phase⟩,⟨3,.phase⟩,⟨4,.phase⟩,⟨5,.phase⟩,⟨6,.phase⟩],none⟩) (ops':=#[⟨some 45,.move (.tmp 0),72, "expand.go:182", #[],none⟩,⟨some 46,.nilCheck (.tmp 45),0, "expand.go:182", #[⟨0,.data⟩],none⟩,⟨some 47,.fieldAddr 76 (.tmp 46) 1,0, "expand.go:182", #[⟨1,.data⟩],none⟩,⟨some 48,.load 73 (.tmp 47),73, "expand.go:182", #[⟨2,.data⟩],none⟩,⟨some 49,.fieldAddr 42 (.tmp 5) 0,0, "expand.go:182", #[],none⟩,⟨some 50,.load 9 (.tmp 49),9, "expand.go:182", #[⟨4,.data⟩],none⟩,⟨some 51,.move (.tmp 4),3, "expand.go:182", #[],none⟩]) (by decide) (by kernel_rfl) (by rfl) (by rfl) ?_
       refine hld HS.o (hB0.drew) (fun hHeld=>?_)
       refine tk 0 rfl ?_
       refine tk 1 rfl ?_
       refine tk 2 rfl ?_
       refine tk 3 rfl ?_
       refine tk 4 rfl ?_
       refine tk 5 rfl ?_
       refine tk 6 rfl ?_
       refine dn ?_
       rotate_left
       all_goals
         refine sinkQ_of fun K hK=>?_
         go_simp
         refine hK _ _ ?_
         clear hK K
         go_wp2_with fail
         go_roundw
         case rel=>exact ⟨k+1,by omega,by go_num,HW5.o,HZ1⟩
         case measure=>simp [intOf] <;> omega
    . have heI:(er:Int)≠0:=by omega
      rw [if_pos (by omega)] at HW1
      have hF:Hid (wrgM l=(k,er)):=hid (by rw [wrg1 HZ.o hlt (by rw [HW1.o];exact he),HW1.o])
      go_wp2_with ((with_reducible refine (HRi.o).mono ?_);rintro e w3 ⟨rfl,g3⟩)
      refine bodyPost_ret (results_tmp2 rfl _ _ _) rfl ⟨by rw [hF.o];rfl,(HW2.o.below (by omega) g3).fr,fun h=>by rw [hF.o] at h;exact absurd h he⟩
  . obtain rfl:k=l.length:=by omega
    have hlb0:LbS N l a c LB NB SB w wo:=⟨⟨hw.c0,hw.c1,hw.c2,hw.lib,by have:=hw.nam;rw [List.take_length] at this;exact this,hlb,hw.nam.lt,hnw⟩,hw.siz,hw.fr⟩
    have HB0:=hid hlb0
    have HRt:=hid (w1_zero HZ.o)
    clear hw HW hlb0 hlt
    go_wp2_with fail
    go_loopw [58] (fun i wr=>∃ k:Nat,k<=l.length/\i=.int .i64 k/\LbS N l a c LB NB SB w wr/\Hid (∀ j,j<k->w2 l j=0)) (fun i _=>l.length - (intOf i).toNat)
    case atStart=>exact ⟨0,by omega,rfl,HB0.o,fun j hj=>absurd hj (Nat.not_lt_zero _)⟩
    case round =>
     clear HB0 hc0 hlb hnw
     obtain ⟨wp,rfl⟩:∃ wo:World,wo=wr:=⟨_,rfl⟩
     obtain ⟨k,hk,rfl,hw,HZ2⟩:=hrel
     have HW:=hid hw
     have hc0:=hw.1.c0
     by_cases hlt:k<l.length
     . have hkI:(k:Int)<(l.length:Int):=by omega
       have hk0:(0:Int)<=(k:Int):=by omega
       have HW2:=hid (w2_at hlt)
       have HTi:=hid (tied_any N l a c LB NB SB l.length k wp hw.1 hlt (by omega) (fun x hx=>by have:=(right_len (HRt.o x hx)).2.2.2.1;omega) (fun x hx=>((HOK.o _ (List.getElem_mem hlt)).2.verx x hx).1.sb) fun v hv ho=>(point_at (HRt.o _ (List.getElem_mem hlt)) hv ho).2)
       clear hw
       cases ht:tiedM l l[k] with
       | true =>
        rw [ht] at HTi HW2
        have HZ3:Hid (∀ j,j<k+1->w2 l j=0):=hid (step_zero HZ2.o HW2.o)
        clear ht
        go_wp2_with ((with_reducible refine (HTi.o).mono ?_);rintro e w3 ⟨rfl,g3⟩)
        have HW3:=hid (HW.o.below g3)
        go_roundw
        case rel=>exact ⟨k+1,by omega,by go_num,HW3.o,HZ3⟩
        case measure=>simp [intOf] <;> omega
       | false =>
        rw [ht] at HTi HW2
        have h180:w2 l k=180:=HW2.o
        have hF:Hid (wrgM l=(k,180)):=hid (by rw [wrg2 HZ.o HZ2.o hlt (by rw [h180];decide),h180])
        clear ht h180
        go_wp2_with ((with_reducible refine (HTi.o).mono ?_);rintro e w3 ⟨rfl,g3⟩)
        refine bodyPost_ret (results_tmp2 rfl _ _ _) rfl ⟨by rw [hF.o];rfl,(HW.o.below g3).2.2,fun h=>by rw [hF.o] at h;exact absurd h (show ¬ (180=0) by decide)⟩
     . obtain rfl:k=l.length:=by omega
       have HLR:Hid (LibR l):=hid ⟨HRt.o,w2_zero HZ2.o⟩
       clear hw hlt
       go_wp2_with fail
       go_loopw [72] (fun i wr=>∃ k:Nat,k<=l.length/\i=.int .i64 k/\LbS N l a c LB NB SB w wr/\Hid (∀ j,j<k->w3 l j=0)) (fun i _=>l.length - (intOf i).toNat)
       case atStart=>exact ⟨0,by omega,rfl,HW.o,fun j hj=>absurd hj (Nat.not_lt_zero _)⟩
       case round =>
        clear HW hc0
        obtain ⟨wq,rfl⟩:∃ wo:World,wo=wr:=⟨_,rfl⟩
        obtain ⟨k,hk,rfl,hw,HZ3⟩:=hrel
        have HW:=hid hw
        have hc0:=hw.1.c0
        by_cases hlt:k<l.length
        . have hkI:(k:Int)<(l.length:Int):=by omega
          have hk0:(0:Int)<=(k:Int):=by omega
          have HRe:=hid (reached_any N l a c LB NB SB l.length k wq (by omega) (fun x hx=>by have:=(right_len (HRt.o x hx)).2.2.2.1;omega) (fun x hx y hy=>((HOK.o x hx).2.verx y hy).1.sb) (LibR.found HLR.o) hw.1 hlt)
          clear hw
          obtain ⟨u,hu⟩:=ex2 (rB l k k)
          have HU:=hid hu
          cases u with
          | true =>
           have h180:w3 l k=180:=by unfold w3;rw [if_pos hu]
           have hF:Hid (wrgM l=(k,180)):=hid (by rw [wrg3 HZ.o HZ2.o HZ3.o hlt (by rw [h180];decide),h180])
           clear hu h180
           go_wp2_with ((with_reducible refine (HRe.o).mono ?_);rintro e w3 ⟨rfl,hs3,g3⟩;have hq:=hs3.at' k hlt;rw [HU.o] at hq)
           refine bodyPost_ret (results_tmp2 rfl _ _ _) rfl ⟨by rw [hF.o];rfl,(HW.o.below g3).2.2,fun h=>by rw [hF.o] at h;exact absurd h (show ¬ (180=0) by decide)⟩
          | false =>
           have HZ4:Hid (∀ j,j<k+1->w3 l j=0):=hid (step_zero HZ3.o (by unfold w3;rw [if_neg (by rw [hu];decide)]))
           clear hu
           go_wp2_with ((with_reducible refine (HRe.o).mono ?_);rintro e w3 ⟨rfl,hs3,g3⟩;have hq:=hs3.at' k hlt;rw [HU.o] at hq)
           have HW3:=hid (HW.o.below g3)
           clear hq hs3
           go_roundw
           case rel=>exact ⟨k+1,by omega,by go_num,HW3.o,HZ4⟩
           case measure=>simp [intOf] <;> omega
        . obtain rfl:k=l.length:=by omega
          have hLP:LibP l:={ HLR.o with prt:=fun m hm=>(HOK.o m hm).2,no:=w3_zero HZ3.o }
          have HLP:=hid hLP
          have HSz:Hid (Calls Tryz.prog 48 #[.pointer (some ⟨LB,0,none⟩),.int .i64 0] wq (SzP l 0 SB (fun _=>none) wq)):=hid (libsize_any N l a c LB NB SB l.length hLP hll hN2 h2 (Ne.symm h3) l.length 0 (dpt_all hLP.no hl0) hl0 wq 0 (fun _=>none) hw.1 hw.2.1 ⟨fun n _ v hv=>(by cases hv),by rw [Nat.zero_add];exact cntF_n _ _⟩)
          have HMa:=hid fun wx=>sizMany_any (sizF l l.length 0) wx
          have HWr:=hid (wrg4 HZ.o HZ2.o HZ3.o)
          unfold sizV at HMa
          clear hw hLP hlt
          obtain ⟨z,hze⟩:=ex2 (sizF l l.length 0)
          rw [hze] at HMa HWr
          have HZe:=hid hze
          clear hze
          cases hm:manyS z with
          | true =>
           rw [hm] at HMa HWr
           have hF:Hid (wrgM l=(0,3)):=hid HWr.o
           clear hm
           go_wp2_with (first | ((with_reducible refine (HSz.o).mono ?_);rintro e w3 ⟨rfl,_,g3⟩;rw [HZe.o];unfold sizV) | ((with_reducible refine (HMa.o _).mono ?_);rintro e w4 ⟨rfl,g4⟩))
           refine bodyPost_ret (results_tmp2 rfl _ _ _) rfl ⟨by rw [hF.o];rfl,?_,fun h=>by rw [hF.o] at h;exact absurd h (show ¬ (3=0) by decide)⟩
           exact (HW.o.2.2.trans ⟨g3.os,g3.tape,g3.output,g3.size,fun b hb _ h=>g3.block b hb (by intro e;injection e with e;exact h e)⟩).trans (Fr2.of_below g4)
          | false =>
           rw [hm] at HMa HWr
           have hF:Hid (wrgM l=(0,0)):=hid HWr.o
           have HSm:Hid (Smal l 0):=hid (Smal.of_size (by rw [HZe.o];exact hm))
           clear hm
           go_wp2_with (first | ((with_reducible refine (HSz.o).mono ?_);rintro e w3 ⟨rfl,_,g3⟩;rw [HZe.o];unfold sizV) | ((with_reducible refine (HMa.o _).mono ?_);rintro e w4 ⟨rfl,g4⟩))
           have hA3:=HW.o.1.grown g3 hN2 h2 (Ne.symm h3)
           refine bodyPost_ret (results_tmp2 rfl _ _ _) rfl ⟨by rw [hF.o];rfl,?_,fun _=>⟨⟨_,hA3.below g4⟩,HLP.o,HSm.o⟩⟩
           exact (HW.o.2.2.trans ⟨g3.os,g3.tape,g3.output,g3.size,fun b hb _ h=>g3.block b hb (by intro e;injection e with e;exact h e)⟩).trans (Fr2.of_below g4)
end Go.Proofs

namespace Go.Md
open Go.RowKit Go.Lx Go.Proofs
open Lib(hid)
set_option maxRecDepth 100000
set_option maxHeartbeats 0
set_option linter.unusedVariables false
theorem addV_mem {acc:List VarD} {v x:VarD} (h:x ∈ addV acc v):x ∈ acc\/x=v:=by
 unfold addV at h
 split at h
 . exact .inl h
 . rcases List.mem_append.1 h with h | h
   . exact .inl h
   . exact .inr (List.mem_singleton.1 h)
theorem addE_mem {acc:List ByteArray} {v x:ByteArray} (h:x ∈ addE acc v):x ∈ acc\/x=v:=by
 unfold addE at h
 split at h
 . exact .inl h
 . rcases List.mem_append.1 h with h | h
   . exact .inl h
   . exact .inr (List.mem_singleton.1 h)
theorem fold_mem {α β:Type} {f:List α->β->List α} {g:β->List α} (h:∀ acc v x,x ∈ f acc v->x ∈ acc\/x ∈ g v):∀ (l:List β) (acc:List α) (x:α),x ∈ l.foldl f acc->x ∈ acc\/∃ v ∈ l,x ∈ g v
 | [],acc,x,hx=>.inl hx
 | v :: t,acc,x,hx=>by
   rcases fold_mem h t (f acc v) x hx with h1 | ⟨u,hu,h2⟩
   . rcases h acc v x h1 with h3 | h3
     . exact .inl h3
     . exact .inr ⟨v,by simp,h3⟩
   . exact .inr ⟨u,by simp [hu],h2⟩
theorem allV_mem {l:List MdlD} {x:VarD} (h:x ∈ allV l):∃ m ∈ l,x ∈ m.vars:=by
 have:=fold_mem (f:=varsS l) (g:=fun i=>(l.getD i D0).vars) (fun acc i x hx=>by
   unfold varsS at hx
   split at hx
   . rcases fold_mem (f:=addV) (g:=fun v=>[v]) (fun acc v x hx=>(addV_mem hx).imp id fun h=>by simp [h]) _ _ _ hx with h | ⟨v,hv,hxv⟩
     . exact .inl h
     . rw [List.mem_singleton] at hxv;subst hxv;exact .inr hv
   . exact .inl hx) _ _ _ h
 rcases this with h | ⟨i,hi,hx⟩
 . simp at h
 . exact ⟨_,getD_mem (List.mem_range.1 hi) D0,hx⟩
theorem allE_mem {l:List MdlD} {x:ByteArray} (h:x ∈ allE l):∃ m ∈ l,x ∈ m.evs:=by
 have:=fold_mem (f:=evsS l) (g:=fun i=>(l.getD i D0).evs) (fun acc i x hx=>by
   unfold evsS at hx
   split at hx
   . rcases fold_mem (f:=addE) (g:=fun v=>[v]) (fun acc v x hx=>(addE_mem hx).imp id fun h=>by simp [h]) _ _ _ hx with h | ⟨v,hv,hxv⟩
     . exact .inl h
     . rw [List.mem_singleton] at hxv;subst hxv;exact .inr hv
   . exact .inl hx) _ _ _ h
 rcases this with h | ⟨i,hi,hx⟩
 . simp at h
 . exact ⟨_,getD_mem (List.mem_range.1 hi) D0,hx⟩
theorem made_prt {l:List MdlD} (hL:LibP l) (h0:0<l.length) (hs:Smal l 0):Prt (madeM l)/\San (madeM l)/\LeS (lens (madeM l)) S512:=by
 have hd:=dpt_all hL.no h0
 have hle:LeS (lens (expF false l l.length 0)) S512:=few_le hs
 have hp:=expF_prt (cut:=false) hL (B:=512) (by omega) (Nat.le_refl _) hd h0 hle
 obtain ⟨hs1,_⟩:=exp_san (cut:=false) hL.toLibR hd h0
 refine ⟨⟨hp.nm,fun x hx=>?_,fun x hx=>?_,hp.regn,hp.verx,hp.trnx⟩,⟨hs1.own,hs1.ver,hs1.trn⟩,hle⟩
 . obtain ⟨m,hm,hxm⟩:=allV_mem hx
   exact (hL.prt m hm).varn x hxm
 . obtain ⟨m,hm,hxm⟩:=allE_mem hx
   exact (hL.prt m hm).evn x hxm
theorem expM_nil {l:List MdlD} (h:l.length=0):expM l=(D0,(0,2)):=by unfold expM;rw [if_pos h]
theorem expM_bad {l:List MdlD} (h:l.length≠0) (h2:(wrgM l).2≠0):expM l=(D0,wrgM l):=by unfold expM;rw [if_neg h,if_pos h2]
theorem expM_not {l:List MdlD} (h:l.length≠0) (h2:(wrgM l).2=0) (h3:(riM (madeM l)).2.2≠0):expM l=(D0,(0,(riM (madeM l)).2.2)):=by unfold expM;rw [if_neg h,if_neg (by omega),if_pos h3]
theorem expM_ok {l:List MdlD} (h:l.length≠0) (h2:(wrgM l).2=0) (h3:(riM (madeM l)).2.2=0):expM l=(madeM l,(0,0)):=by unfold expM;rw [if_neg h,if_neg (by omega),if_neg (by omega)]
end Go.Md
namespace Go.Proofs
open Go.RowKit Go.Lx Go.Md Go.Shelf Go.Maps Go.BigFrame
open Lib(hid)
set_option maxRecDepth 100000
set_option maxHeartbeats 0
set_option linter.unusedVariables false
def P0:Ph:=⟨none,0,none,0,none,0,none,0,none,0⟩
theorem mod0 (Q:Nat->BP) (w:World):Mod Q w D0 P0:=⟨.inl ⟨_,_,rfl,rfl⟩,.inl ⟨_,_,rfl,rfl⟩,.inl ⟨_,_,rfl,rfl⟩,.inl ⟨_,_,rfl,rfl⟩,.inl ⟨_,_,rfl,rfl⟩⟩
theorem objs4 (w:World) (a b c d:Obj):((((w.alloc a).alloc b).alloc c).alloc d).heap[w.heap.size]? = some a/\((((w.alloc a).alloc b).alloc c).alloc d).heap[w.heap.size+1]? = some b/\((((w.alloc a).alloc b).alloc c).alloc d).heap[w.heap.size+1+1]? = some c/\((((w.alloc a).alloc b).alloc c).alloc d).heap[w.heap.size+1+1+1]? = some d/\Below w.heap.size w ((((w.alloc a).alloc b).alloc c).alloc d)/\((((w.alloc a).alloc b).alloc c).alloc d).heap.size=w.heap.size+1+1+1+1:=by
 obtain ⟨h1,h2,h3⟩:=objs3 w a b c
 have e3:(((w.alloc a).alloc b).alloc c).heap.size=w.heap.size+1+1+1:=by simp
 have k:∀ b',b'<w.heap.size+1+1+1->((((w.alloc a).alloc b).alloc c).alloc d).heap[b']? = (((w.alloc a).alloc b).alloc c).heap[b']? := fun b' hb=>Below.heap_alloc _ _ _ (by omega)
 refine ⟨(k _ (by omega)).trans h1,(k _ (by omega)).trans h2,(k _ (by omega)).trans h3,?_,(objs3b w a b c).trans ((below_al1 _ d).mono (by omega)),by simp⟩
 rw [<- e3,World.alloc_heap_new]
theorem cellsV3 {w:World} {H:Nat} {T:TypeId} {v0 v1 v2:Value} (h:w.heap[H]? = some (.cells #[v0,v1,v2] T (0,0))):w.cell? ⟨H,0,none⟩=some v0/\w.cell? ⟨H,1,none⟩=some v1/\w.cell? ⟨H,2,none⟩=some v2:=by
 refine ⟨?_,?_,?_⟩ <;> (unfold World.cell?;simp only [h];rfl)
theorem Fr2.below {S T:Nat} {w w':World} (h:Fr2 S T w w') {B:Nat} (h1:B<=S) (h2:B<=T) (hB:B<=w.heap.size):Below B w w':=⟨h.os,h.tape,h.output,h.size,fun b hb=>h.block b (by omega) (by omega) (by omega)⟩
def ExQ (l:List MdlD) (w:World) (e:Ending) (w':World):Prop:=∃ p,e=.returned (.tuple #[mdV (expM l).1 p,.int .i64 ((expM l).2.1:Nat),.int .i64 ((expM l).2.2:Nat)])/\Mod (fun j=>TB w.heap.size (TT j)) w' (expM l).1 p/\Below w.heap.size w w'
theorem expand_any (l:List MdlD) (a:Option Addr) (c:Nat) (w:World) (hl:LibV w.heap.size w (.slice a l.length c) l) (hll:l.length<=100) (hok:∀ m ∈ l,MdlOk m/\Prt m) (hT:Tab w) :
   Calls Tryz.prog 9 #[.slice a l.length c] w (ExQ l w):=by
 by_cases h0:l.length=0
 . have hE:=hid (expM_nil h0)
   clear hl
   rw [h0]
   go_enter Tryz.func9,Tryz.ntmps9
   go_wp2_with fail
   refine bodyPost_ret (v:=.tuple #[mdV D0 P0,.int .i64 0,.int .i64 2]) (by simp [results,Tryz.results9,go_sem,mdV,P0]) rfl ⟨P0,by rw [hE.o];rfl,by rw [hE.o];exact mod0 _ _,below_al1 w _⟩
 . have hl0:0<l.length:=by omega
   have hl0I:((l.length:Int) == 0)=false:=by rw [beq_eq_false_iff_ne];omega
   have HL:=hid hl
   have HOK:=hid hok
   have HT:=hid hT
   clear hl hok hT
   go_enter Tryz.func9,Tryz.ntmps9
   have hmm:=@run_makeMap Tryz.prog
   go_upto_region 4 with fail
   have hO:=objs4 w zeroM (.map #[] 0) (.map #[] 0) (.cells #[.slice a l.length c,.map (some (w.heap.size+1)),.map (some (w.heap.size+1+1))] 76)
   unfold zeroM at hO
   generalize ((((w.alloc (.cells #[.string ⟨#[]⟩,.slice none 0 0,.slice none 0 0,.slice none 0 0,.slice none 0 0,.slice none 0 0] 42)).alloc (.map #[] 0)).alloc (.map #[] 0)).alloc (.cells #[.slice a l.length c,.map (some (w.heap.size+1)),.map (some (w.heap.size+1+1))] 76))=W4 at *
   obtain ⟨hz0,hn4,hs4,hlb4,hB4,hz4⟩:=hO
   obtain ⟨c0,c1,c2⟩:=cellsV3 hlb4
   have hW:WrS w.heap.size l a c (w.heap.size+1+1+1) (w.heap.size+1) (w.heap.size+1+1) 0 W4 W4 :=
     ⟨c0,c1,c2,HL.o.below hB4,by
       have e:nmF (l.take 0)=fun _=>none:=by funext s;rfl
       rw [e];exact MapG.made hn4,MapG.made hs4,Fr2.refl _ _ _⟩
   have HWr:=hid (wrong_any w.heap.size l a c (w.heap.size+1+1+1) (w.heap.size+1) (w.heap.size+1+1) W4 hll hl0 HOK.o (fun wx g=>HT.o.next (hB4.trans g)) (by omega) (by omega) hB4.size (by omega) (by omega) (by omega) hW)
   have HZ0:Hid (W4.heap[w.heap.size]? = some zeroM):=hid hz0
   have HB4:=hid hB4
   clear hW hz0 hn4 hs4 hlb4 hB4 c0 c1 c2 hmm
   obtain ⟨at',hat⟩:∃ at',(wrgM l).1=at':=⟨_,rfl⟩
   obtain ⟨er,her⟩:=ex2 ((wrgM l).2)
   have HAt:=hid hat
   have HEr:=hid her
   clear hat her
   by_cases he:er=0
   . subst he
     go_upto_region 7 with ((with_reducible refine (HWr.o).mono ?_);rintro e w5 ⟨rfl,hf5,hA5⟩;rw [HAt.o,HEr.o])
     obtain ⟨⟨cnt,hA⟩,hLP,hSm⟩:=hA5 HEr.o
     have hB5:Below w.heap.size w w5:=HB4.o.trans (hf5.below (by omega) (by omega) HB4.o.size)
     have hZ5:=(hf5.block w.heap.size (by omega) (by omega) (by omega)).trans HZ0.o
     have HEx:Hid (Calls Tryz.prog 29 #[.pointer (some ⟨w.heap.size+1+1+1,0,none⟩),.int .i64 0] w5 (ExpP l 0 w5)):=hid (expanded_any w.heap.size l a c _ _ _ cnt hLP (by omega) l.length 0 (dpt_all hLP.no hl0) hl0 hSm w5 hA)
     have HA:=hid hA
     have HLP:=hid hLP
     have HMp:=hid (made_prt hLP hl0 hSm)
     have HB5:=hid hB5
     have HZ5:=hid hZ5
     have hz5:w.heap.size<w5.heap.size:=by have:=hf5.size;omega
     clear hf5 hA5 hA hLP hSm hB5 hZ5
     go_upto_region 8 with ((with_reducible refine (HEx.o).mono ?_);rintro e w6 ⟨p6,rfl,ho6,hb6⟩;unfold mdV)
     obtain ⟨ex,hex⟩:=ex2 (expF false l l.length 0)
     rw [hex] at ho6 |-
     have HEx2:=hid hex
     have hB7:Below w6.heap.size w6 (w6.alloc (mBox ex p6)):=below_al1 w6 _
     have hX7:(w6.alloc (mBox ex p6)).heap[w6.heap.size]? = some (mBox ex p6):=World.alloc_heap_new _ _
     have hz7:w6.heap.size<(w6.alloc (mBox ex p6)).heap.size:=by simp
     have hb57:=hb6.trans (hB7.mono hb6.size)
     have HNa:=hid (names_any w.heap.size l a c _ _ _ cnt (w6.alloc (mBox ex p6)) hll hl0 HLP.o.ri (fun x hx y hy=>((HOK.o x hx).2.verx y hy).1.sb) (LibR.found HLP.o.toLibR) (HA.o.below hb57))
     have hM7:=ho6.below hB7
     have hb6s:=hb6.size
     unfold mBox at hB7 hX7 hz7 hb57 HNa hM7
     generalize w6.alloc (.cells #[.string ex.nm,.slice p6.a1 ex.vars.length p6.c1,.slice p6.a2 ex.evs.length p6.c2,.slice p6.a3 ex.regs.length p6.c3,.slice p6.a4 ex.vers.length p6.c4,.slice p6.a5 ex.trns.length p6.c5] 42)=W7 at *
     have HB7:=hid (HB5.o.trans (hb57.mono (by omega)))
     have HZ7:Hid (W7.heap[w.heap.size]? = some zeroM):=hid ((hb57.block _ hz5).trans HZ5.o)
     have HX7:=hid hX7
     have HM7:=hid hM7
     clear hX7 hB7 hb57 hM7 hex hb6 ho6 HEx
     go_upto_region 9 with ((with_reducible refine (HNa.o).mono ?_);rintro e w8 ⟨a1,c1,a2,c2,rfl,hnm⟩;obtain ⟨x0,x1,x2,x3,x4,x5,f0,f1,f2,f3,f4,f5⟩:=box_at ((hnm.bel.block _ hz7).trans HX7.o))
     obtain ⟨mm,hmm⟩:=ex2 (madeM l)
     obtain ⟨p8,hp8⟩:∃ p8:Ph,p8={ p6 with a1:=a1,c1:=c1,a2:=a2,c2:=c2 }:=⟨_,rfl⟩
     have hmx:mm={ ex with vars:=allV l,evs:=allE l }:=by rw [<- hmm,<- HEx2.o];rfl
     have hX8:=(hnm.bel.block _ hz7).trans HX7.o
     have hat:AtB w6.heap.size w8 ((w8.setCell ⟨w6.heap.size,1,none⟩ (.slice a1 (allV l).length c1)).setCell ⟨w6.heap.size,2,none⟩ (.slice a2 (allE l).length c2)):=((AtB.refl _ w8).set _ _).set _ _
     have hX9:((w8.setCell ⟨w6.heap.size,1,none⟩ (.slice a1 (allV l).length c1)).setCell ⟨w6.heap.size,2,none⟩ (.slice a2 (allE l).length c2)).heap[w6.heap.size]? = some (mBox mm p8):=by
       rw [hmx,hp8]
       exact box_set (box_set hX8 1 _) 2 _
     have hK:∀ j,Kept (TB w.heap.size (TT j)) w8 ((w8.setCell ⟨w6.heap.size,1,none⟩ (.slice a1 (allV l).length c1)).setCell ⟨w6.heap.size,2,none⟩ (.slice a2 (allE l).length c2)):=fun j=>hat.keptT hX8 (TT_ne j)
     have hold:OwnM w.heap.size w8 ex p6:=(HM7.o.below hnm.bel).mono (by omega)
     have hnm':=hnm.mono (lo':=w.heap.size) (w00:=W7) (by omega) (Below.refl _ _)
     have hM9:Mod (fun j=>TB w.heap.size (TT j)) ((w8.setCell ⟨w6.heap.size,1,none⟩ (.slice a1 (allV l).length c1)).setCell ⟨w6.heap.size,2,none⟩ (.slice a2 (allE l).length c2)) mm p8:=by
       rw [hmx,hp8]
       exact ⟨hnm'.v.kept (VarE.mono (R:=TB w.heap.size (TT 0))) (hK 0) (hK 0),(SlS.sl.2 hnm'.e).kept (hK 1),hold.mod.regs.kept (RegE.mono (R:=TB w.heap.size (TT 0))) (hK 2) (hK 0),hold.mod.vers.kept VerE.mono (hK 3) (hK 5),hold.mod.trns.kept TrnE.mono (hK 4) (hK 6)⟩
     have hB9:Below w.heap.size w ((w8.setCell ⟨w6.heap.size,1,none⟩ (.slice a1 (allV l).length c1)).setCell ⟨w6.heap.size,2,none⟩ (.slice a2 (allE l).length c2)):=(HB7.o.trans (hnm.bel.mono (by omega))).trans (hat.below (by omega))
     have hZ9:=(hat.block w.heap.size (by omega)).trans ((hnm.bel.block _ (by omega)).trans HZ7.o)
     obtain ⟨k1,k2,k3⟩:=HMp.o
     rw [hmm] at k1 k2 k3
     have hvl:mm.vars.length<=100000:=by
       rw [hmx]
       have:=vaK_len (l:=l) (fun m hm=>by have:=(right_len (HLP.o.ri m hm)).1;omega) l.length (Nat.le_refl _)
       show (allV l).length<=_
       have e:vaK l l.length=allV l:=rfl
       rw [e] at this
       omega
     have hel:mm.evs.length<=100000:=by
       rw [hmx]
       have:=evK_len (l:=l) (fun m hm=>by have:=(right_len (HLP.o.ri m hm)).2.1;omega) l.length (Nat.le_refl _)
       show (allE l).length<=_
       have e:evK l l.length=allE l:=rfl
       rw [e] at this
       omega
     have hmo:=k1.ok k2 hvl hel (B:=512) (by omega) k3
     have HMm:=hid hmm
     generalize (w8.setCell ⟨w6.heap.size,1,none⟩ (.slice a1 (allV l).length c1)).setCell ⟨w6.heap.size,2,none⟩ (.slice a2 (allE l).length c2)=W9 at *
     have HRi:=hid (right_any mm p8 W9 hM9 (HT.o.next hB9) hmo)
     unfold mdV at HRi
     have HB9:=hid hB9
     have HM9:=hid hM9
     have HX9:=hid hX9
     have HZ9:=hid hZ9
     have hz9:w.heap.size<W9.heap.size:=Array.getElem?_eq_some_iff.1 hZ9 |>.1
     have hz9':w6.heap.size<W9.heap.size:=Array.getElem?_eq_some_iff.1 hX9 |>.1
     clear hmx hX8 hat hX9 hK hold hnm' hM9 hB9 hZ9 k1 k2 k3 hvl hel hmo hmm hp8 hnm x0 x1 x2 x3 x4 x5 f0 f1 f2 f3 f4 f5 HMp HB7 HZ7 HX7 HM7 HNa
     obtain ⟨x0,x1,x2,x3,x4,x5,_⟩:=mBox.box HX9.o
     obtain ⟨e3,he3⟩:=ex2 ((riM mm).2.2)
     rw [he3] at HRi
     have HE3:=hid he3
     clear he3
     by_cases h3:e3=0
     . subst h3
       have hEx:=hid (expM_ok h0 HEr.o (by rw [HMm.o];exact HE3.o))
       go_wp2_with ((with_reducible refine (HRi.o).mono ?_);rintro e w10 ⟨rfl,g10⟩;obtain ⟨x0,x1,x2,x3,x4,x5,_⟩:=mBox.box ((g10.block _ hz9').trans HX9.o);have hZ10:=(g10.block _ hz9).trans HZ9.o;obtain ⟨z0,z1,z2,z3,z4,z5,y0,y1,y2,y3,y4,y5⟩:=zero_box hZ10)
       obtain ⟨q1,q2⟩:=box_six hZ10 (.string mm.nm) (.slice p8.a1 mm.vars.length p8.c1) (.slice p8.a2 mm.evs.length p8.c2) (.slice p8.a3 mm.regs.length p8.c3) (.slice p8.a4 mm.vers.length p8.c4) (.slice p8.a5 mm.trns.length p8.c5)
       refine bodyPost_ret (v:=.tuple #[mdV mm p8,.int .i64 0,.int .i64 0]) (by simp [results,Tryz.results9,go_sem,mdV,z0,z1,z2,z3,z4,z5]) rfl ⟨p8,by rw [hEx.o,HMm.o];rfl,?_,(HB9.o.trans (g10.mono (by omega))).trans (q2.below (Nat.le_refl _))⟩
       rw [hEx.o,HMm.o]
       exact (HM9.o.below g10).kept fun j=>q2.keptT hZ10 (TT_ne j)
     . have h3I:(e3:Int)≠0:=by omega
       have hEx:=hid (expM_not h0 HEr.o (by rw [HMm.o,HE3.o];exact h3))
       go_wp2_with ((with_reducible refine (HRi.o).mono ?_);rintro e w10 ⟨rfl,g10⟩;have hZ10:=(g10.block _ hz9).trans HZ9.o;obtain ⟨z0,z1,z2,z3,z4,z5,y0,y1,y2,y3,y4,y5⟩:=zero_box hZ10)
       obtain ⟨q1,q2⟩:=box_six hZ10 (.string ⟨#[]⟩) (.slice none 0 0) (.slice none 0 0) (.slice none 0 0) (.slice none 0 0) (.slice none 0 0)
       refine bodyPost_ret (v:=.tuple #[mdV D0 P0,.int .i64 0,.int .i64 e3]) (by simp [results,Tryz.results9,go_sem,mdV,P0,z0,z1,z2,z3,z4,z5]) rfl ⟨P0,by rw [hEx.o,HMm.o,HE3.o];rfl,by rw [hEx.o];exact mod0 _ _,(HB9.o.trans (g10.mono (by omega))).trans (q2.below (Nat.le_refl _))⟩
   . have heI:(er:Int)≠0:=by omega
     go_wp2_with ((with_reducible refine (HWr.o).mono ?_);rintro e w5 ⟨rfl,hf5,_⟩;rw [HAt.o,HEr.o];have hZ5:=(hf5.block w.heap.size (by omega) (by omega) (by omega)).trans HZ0.o;obtain ⟨z0,z1,z2,z3,z4,z5,y0,y1,y2,y3,y4,y5⟩:=zero_box hZ5)
     obtain ⟨q1,q2⟩:=box_six hZ5 (.string ⟨#[]⟩) (.slice none 0 0) (.slice none 0 0) (.slice none 0 0) (.slice none 0 0) (.slice none 0 0)
     have hEx:=expM_bad h0 (by rw [HEr.o];exact he)
     refine bodyPost_ret (v:=.tuple #[mdV D0 P0,.int .i64 at',.int .i64 er]) (by simp [results,Tryz.results9,go_sem,mdV,P0,z0,z1,z2,z3,z4,z5]) rfl ⟨P0,by rw [hEx,HAt.o,HEr.o],by rw [hEx];exact mod0 _ _,(HB4.o.trans (hf5.below (by omega) (by omega) HB4.o.size)).trans (q2.below (Nat.le_refl _))⟩
end Go.Proofs
