/- Walks: the document's answer for histories: stands, remembered, Fits. -/
import Derived.Test.YtiimoclbmaggjaaGreatDoorHHiAE
import Derived.Test.YtiimoclbmaggjaaGreatDoorHRyAB
namespace Go.Proofs
open Go.RowKit Go.Lx Go.Md Go.Shelf Go.BigFrame Go.Rgi
set_option linter.unusedVariables false
theorem may_ref (m:MdlD) (v r:Int):mayM m v r=(v == -1 || (stands m v && rgA m v == r)):=by
 unfold mayM stands rgA
 cases hv:hasV m v with
 | false=>simp
 | true =>
  have h1:(v == -1)=false:=by
    unfold hasV at hv
    simp only [Bool.and_eq_true,decide_eq_true_eq] at hv
    simp only [beq_eq_false_iff_ne,ne_eq];omega
  rw [h1,if_pos rfl]
  cases m.vers[v.toNat]? with
  | none=>rfl
  | some x=>simp only [Bool.true_and,Bool.false_or];exact Bool.and_comm _ _
set_option maxRecDepth 100000 in
set_option maxHeartbeats 1000000 in
theorem rstands_any {Q:Nat→BP} (m:MdlD) (p:Ph) (v:Int) (w:World) (h:Mod Q w m p) (hvl:m.vers.length≤140737488355328) :
   Calls Tryz.prog 159 #[mdV m p,.int .i64 v] w fun e w'=>e=.returned (.bool (stands m v))∧Below w.heap.size w w':=by
 have HP:Hid (∀ wx,Calls Tryz.prog 69 #[.int .i64 v,.int .i64 m.vers.length] wx fun e w'=>e=.returned (.bool (hasV m v))∧wx=w'):=fun wx=>place_any v m.vers.length wx
 have HB:=Lib.hid (Mb.madeT h 60)
 cases hv:hasV m v with
 | false =>
  have hp:stands m v=false:=by unfold stands;rw [hv];rfl
  rw [hp]
  rw [hv] at HP
  unfold mdV
  clear h hp hv
  go_enter Tryz.func159,Tryz.ntmps159
  go_wp2_with ((with_reducible refine (HP.out _).mono ?_);rintro e w' ⟨rfl,rfl⟩)
  go_ret
  exact ⟨rfl,HB.out.bel⟩
 | true =>
  obtain ⟨k,rfl,hk⟩:=hasV_yes hv
  have hp:stands m k=(m.vers[k].kd == 1 || m.vers[k].kd == 2):=by
    unfold stands;rw [hv,Int.toNat_natCast,List.getElem?_eq_getElem hk];rfl
  rw [hp]
  rw [hv] at HP
  obtain ⟨b1,o1,ha1,hb1,hc1⟩:=h.vers.get hk
  obtain ⟨x,hx⟩:∃ x,x=m.vers[k]:=⟨_,rfl⟩
  rw [← hx] at hc1 ⊢
  obtain ⟨dv,hdv,r0,r1,r2,r3,r4,r5,r6,r7⟩:=hc1
  have hcap:=h.vers.cap (by omega)
  unfold mdV
  rw [ha1] at HB ⊢
  have h1:(0:Int)≤(k:Int):=by omega
  have h2:(k:Int)<(m.vers.length:Int):=by omega
  clear h hp hv hx hdv ha1 r0 r2 r3 r4 r5 r6 r7
  cases d2:(x.kd == 1) with
  | true =>
   have e2:((x.kd:Int) == 1)=true:=by simp at d2 ⊢;omega
   go_enter Tryz.func159,Tryz.ntmps159
   go_wp2_with ((with_reducible refine (HP.out _).mono ?_);rintro e w' ⟨rfl,rfl⟩)
   go_ret
   exact ⟨rfl,HB.out.bel⟩
  | false =>
   have e2:((x.kd:Int) == 1)=false:=by simp at d2 ⊢;omega
   cases d3:(x.kd == 2) with
   | true =>
    have e3:((x.kd:Int) == 2)=true:=by simp at d3 ⊢;omega
    go_enter Tryz.func159,Tryz.ntmps159
    go_wp2_with ((with_reducible refine (HP.out _).mono ?_);rintro e w' ⟨rfl,rfl⟩)
    go_ret
    exact ⟨rfl,HB.out.bel⟩
   | false =>
    have e3:((x.kd:Int) == 2)=false:=by simp at d3 ⊢;omega
    go_enter Tryz.func159,Tryz.ntmps159
    go_wp2_with ((with_reducible refine (HP.out _).mono ?_);rintro e w' ⟨rfl,rfl⟩)
    go_ret
    exact ⟨rfl,HB.out.bel⟩
set_option maxRecDepth 100000 in
set_option maxHeartbeats 2000000 in
theorem rrem_any {Q:Nat→BP} (m:MdlD) (p:Ph) (last:List Int) (lv:Value) (r:Nat) (w:World) (hm:Mod Q w m p)
   (hr:RowIn w lv last) (hl:last.length≤1000000) (hf:fitRow m last=true) (hrl:r<last.length) (hvl:m.vers.length≤140737488355328) :
   Calls Tryz.prog 154 #[mdV m p,lv,.int .i64 r] w fun e w'=>e=.returned (.bool (remM m last r))∧Below w.heap.size w w':=by
 obtain ⟨a,c,rfl,hc,q⟩:=hr.len
 obtain ⟨b1,o1,rfl,hbl1,hc1⟩:=q r hrl
 have hmay:=fit_at hf hrl
 have hg:last.getD r (-1)=last[r]:=by rw [List.getD_eq_getElem?_getD,List.getElem?_eq_getElem hrl];rfl
 have hat:atL last r=last[r]:=by unfold atL;rw [Int.toNat_natCast];exact hg
 rw [hg] at hmay
 have hR:remM m last r=Md.stM m last[r]:=by unfold remM;rw [hat]
 rw [hR]
 have HB:=Lib.hid (Mb.madeT hm 60)
 obtain ⟨y,hy⟩:∃ y,last[r]=y:=⟨_,rfl⟩
 rw [hy] at hc1 hmay ⊢
 have hI:(r:Int)<(last.length:Int):=by omega
 have hI0:(0:Int)≤(r:Int):=by omega
 obtain ⟨n,hn⟩:∃ n,last.length=n:=⟨_,rfl⟩
 rw [hn] at hc hI hl ⊢
 have d1:=(HB.out.bel.cell (p:=⟨b1,o1+r,none⟩) hbl1).trans hc1
 have hbl1':b1<(w.alloc (.cells #[.string m.nm,.slice p.a1 m.vars.length p.c1,.slice p.a2 m.evs.length p.c2,.slice p.a3 m.regs.length p.c3,.slice p.a4 m.vers.length p.c4,.slice p.a5 m.trns.length p.c5] 60)).heap.size:=Nat.lt_of_lt_of_le hbl1 HB.out.bel.size
 clear hr q hf hrl hg hat hR hy hn
 unfold mdV
 by_cases hy0:0≤y
 · have hv:hasV m y=true:=by
     unfold mayM at hmay
     cases hv:hasV m y with
     | true=>rfl
     | false=>rw [hv] at hmay;simp at hmay;omega
   obtain ⟨v,rfl,hvk⟩:=hasV_yes hv
   obtain ⟨b2,o2,ha2,hb2,hc2⟩:=hm.vers.get hvk
   have hcap2:=hm.vers.cap (by omega)
   have est:Md.stM m (v:Int)=(m.vers[v].kd == 1):=by
     unfold Md.stM;rw [Int.toNat_natCast,List.getElem?_eq_getElem hvk];simp
   rw [est]
   obtain ⟨x,hx⟩:∃ x,x=m.vers[v]:=⟨_,rfl⟩
   rw [← hx] at hc2 ⊢
   obtain ⟨dv,hdv,r0,r1,r2,r3,r4,r5,r6,r7⟩:=hc2
   have h2:(v:Int)<(m.vers.length:Int):=by omega
   have hd0:decide ((0:Int)≤(v:Int))=true:=by simp
   have d2':=(HB.out.bel.cell (p:=⟨b2,o2+v * 8+1,none⟩) hb2).trans r1
   rw [ha2] at HB d1 d2' hbl1' ⊢
   clear hm hmay hv ha2 est hx hdv r0 r1 r2 r3 r4 r5 r6 r7 hc1
   cases d2:(x.kd == 1) with
   | true =>
    have e2:((x.kd:Int) == 1)=true:=by simp at d2 ⊢;omega
    go_enter Tryz.func154,Tryz.ntmps154
    go_wp2_with fail
    go_quiet (fail)
    go_wp2_with fail
    go_ret
    exact ⟨rfl,below_drewN HB.out.bel nq⟩
   | false =>
    have e2:((x.kd:Int) == 1)=false:=by simp at d2 ⊢;omega
    go_enter Tryz.func154,Tryz.ntmps154
    go_wp2_with fail
    go_quiet (fail)
    go_wp2_with fail
    go_ret
    exact ⟨rfl,below_drewN HB.out.bel nq⟩
 · have est:Md.stM m y=false:=by unfold Md.stM;simp;omega
   rw [est]
   have hd0:decide ((0:Int)≤y)=false:=by simpa using hy0
   clear hm hmay est hc1
   go_enter Tryz.func154,Tryz.ntmps154
   go_wp2_with fail
   go_quiet (fail)
   go_wp2_with fail
   go_ret
   exact ⟨rfl,below_drewN HB.out.bel nq⟩
set_option maxRecDepth 100000 in
set_option maxHeartbeats 4000000 in
theorem rfits21_any {Q:Nat→BP} (m:MdlD) (p:Ph) (last:List Int) (lv:Value) (w:World) (h:Mod Q w m p) (hm:MdlOk m) (hr:RowIn w lv last) (hl:last.length≤1000000) :
   Calls Tryz.prog 67 #[mdV m p,lv] w fun e w'=>e=.returned (.bool (fitsM m last))∧Below w.heap.size w w':=by
 have HB:=Lib.hid (Mb.madeT h 60)
 have R1:=Lib.hid (fun wx (g:Mb m p w.heap.size w wx)=>rright_any m p wx g.mod hm)
 have HM:=Lib.hid (fun wx (g:Mb m p w.heap.size w wx) (v:Int)=>rstands_any m p v wx g.mod hm.vers)
 have HR:=Lib.hid (fun (wx:World) (g:Below w.heap.size w wx)=>(hr.below g).len)
 have HV:=Lib.hid (fun wx (g:Mb m p w.heap.size w wx) (j:Nat) (hj:j<m.vers.length)=>g.mod.vers.get hj)
 have hcapv:=Lib.hid (fun h0=>h.vers.cap h0)
 obtain ⟨a,c,rfl,hc,_⟩:=hr.len
 have hrl:=hm.regs
 have hvl:=hm.vers
 have HF:Hid (∀ b,fitsM m last=b↔((riM m).2.2 == 0 && last.length == m.regs.length && fitRow m last)=b):=fun b=>Iff.rfl
 generalize riM m=q at R1 HF
 obtain ⟨rx,ry,rz⟩:=q
 unfold mdV at R1 HM ⊢
 dsimp only at R1 HF
 clear h hm hr
 by_cases hz:rz=0
 · subst hz
   by_cases hn:last.length=m.regs.length
   · have hd:((last.length:Int) != (m.regs.length:Int))=false:=by simp only [bne_eq_false_iff_eq];omega
     have HL:Hid (∀ b,fitRow m last=b→fitsM m last=b):=fun b hb=>(HF.out b).2 (by rw [hb,hn];simp)
     obtain ⟨n,hn2⟩:∃ n,last.length=n:=⟨_,rfl⟩
     have HN:=Lib.hid hn2
     rw [hn2] at hl hc hd ⊢
     clear hn hn2 HF
     go_enter Tryz.func67,Tryz.ntmps67
     go_wp2_with fail
     refine (R1.out _ HB.out).mono ?_
     rintro e w3 ⟨rfl,g3⟩
     have H3:=Lib.hid (HB.out.below g3)
     clear g3 HB R1
     obtain ⟨x0,x1,x2,x3,x4,x5,_⟩:=H3.out.box
     go_wp2_with fail
     clear x0 x1 x2 x3 x4 x5
     go_loopw [8] (fun i wr=>∃ k:Nat,k≤n∧i=.int .i64 k∧Mb m p w.heap.size w wr∧∀ j,j<k→mayM m (last.getD j (-1)) j=true) (fun i _=>n - (intOf i).toNat)
     case atStart=>exact ⟨0,by omega,rfl,H3.out,fun j hj=>by omega⟩
     case round =>
      obtain ⟨wo,rfl⟩:∃ wo:World,wo=wr:=⟨_,rfl⟩
      obtain ⟨k,hk,rfl,hb,hno⟩:=hrel
      have HB:=Lib.hid hb
      have HNo:=Lib.hid hno
      clear hb hno H3
      by_cases hlt:k<n
      · obtain ⟨a',c',e,_,q⟩:=HR.out wo HB.out.bel
        simp only [Value.slice.injEq] at e
        obtain ⟨rfl,_,rfl⟩:=e
        obtain ⟨b1,o1,rfl,hbl1,hc1⟩:=q k (by rw [HN.out];exact hlt)
        have hI:(k:Int)<(n:Int):=by omega
        have hI0:(0:Int)≤(k:Int):=by omega
        have hg:last.getD k (-1)=last[k]'(by rw [HN.out];exact hlt):=by rw [List.getD_eq_getElem?_getD,List.getElem?_eq_getElem (by rw [HN.out];exact hlt)];rfl
        rw [← hg] at hc1
        have HS:Hid (∀ b,mayM m (last.getD k (-1)) k=b→(b=true→∀ j,j<k+1→mayM m (last.getD j (-1)) j=true)∧(b=false→fitsM m last=false)):=fun b hb=>⟨fun ht j hj=>by
            by_cases e:j=k
            · subst e;rw [hb,ht]
            · exact HNo.out j (by omega),fun hf=>HL.out false (fitRow_no (by rw [HN.out];exact hlt) (by rw [hb,hf]))⟩
        obtain ⟨y,hy⟩:∃ y,last.getD k (-1)=y:=⟨_,rfl⟩
        rw [hy] at hc1 HS
        have HMay:=Lib.hid (may_ref m y k)
        have HC:=Lib.hid (fun wx (g:Below wo.heap.size wo wx)=>HM.out wx (HB.out.below g) y)
        have HX:Hid (∀ W',Below wo.heap.size wo W'→Mb m p w.heap.size w W'∧W'.cell? ⟨b1,o1+k,none⟩=some (.int .i64 y)):=fun W' g=>⟨HB.out.below g,(g.cell (p:=⟨b1,o1+k,none⟩) hbl1).trans hc1⟩
        have hB0:Below wo.heap.size wo wo:=Below.refl _ _
        clear q hg hy HM HR HNo HL
        by_cases hy1:y=-1
        · have hd1:(y != -1)=false:=by rw [hy1];rfl
          have hT:=Lib.hid ((HS.out true (by rw [HMay.out,hy1];rfl)).1 rfl)
          clear HS HMay hy1 HC
          obtain ⟨x0,x1,x2,x3,x4,x5,_⟩:=HB.out.box
          go_wp2_with fail
          go_quiet (fail)
          go_wp2_with fail
          go_roundw
          case rel=>exact ⟨k+1,by omega,by go_num,HB.out.below (below_drewN hB0 nq),hT.out⟩
          case measure=>simp [intOf] <;> omega
        · have hd1:(y != -1)=true:=by simp only [bne_iff_ne,ne_eq];exact hy1
          have hd1':(y == -1)=false:=by simp only [beq_eq_false_iff_ne,ne_eq];exact hy1
          have hM2:=HMay.out
          rw [hd1',Bool.false_or] at hM2
          cases hs:stands m y with
          | false =>
           have hF:=Lib.hid ((HS.out false (by rw [hM2,hs];rfl)).2 rfl)
           rw [hs] at HC
           have HS':Hid (∀ W',Below wo.heap.size wo W'→W'.cell? ⟨w.heap.size,0,none⟩=some (.string m.nm)∧W'.cell? ⟨w.heap.size,1,none⟩=some (.slice p.a1 m.vars.length p.c1)∧W'.cell? ⟨w.heap.size,2,none⟩=some (.slice p.a2 m.evs.length p.c2)∧W'.cell? ⟨w.heap.size,3,none⟩=some (.slice p.a3 m.regs.length p.c3)∧W'.cell? ⟨w.heap.size,4,none⟩=some (.slice p.a4 m.vers.length p.c4)∧W'.cell? ⟨w.heap.size,5,none⟩=some (.slice p.a5 m.trns.length p.c5)∧W'.cell? ⟨b1,o1+k,none⟩=some (.int .i64 y)):=fun W' g=>by
             obtain ⟨q1,q2⟩:=HX.out W' g
             obtain ⟨x0,x1,x2,x3,x4,x5,_⟩:=q1.box
             exact ⟨x0,x1,x2,x3,x4,x5,q2⟩
           clear HS HMay hy1 hd1' hM2 hs hcapv HV
           go_wp2_with fail
           refine wp_region_any (by kernel_rfl) ?_
           change wpAny _ _ _ _ _ _ _ (World.drew _)
           refine wpAny_of_heldS (S:=(fun W'=>W'.cell? ⟨w.heap.size,0,none⟩=some (.string m.nm)∧W'.cell? ⟨w.heap.size,1,none⟩=some (.slice p.a1 m.vars.length p.c1)∧W'.cell? ⟨w.heap.size,2,none⟩=some (.slice p.a2 m.evs.length p.c2)∧W'.cell? ⟨w.heap.size,3,none⟩=some (.slice p.a3 m.regs.length p.c3)∧W'.cell? ⟨w.heap.size,4,none⟩=some (.slice p.a4 m.vers.length p.c4)∧W'.cell? ⟨w.heap.size,5,none⟩=some (.slice p.a5 m.trns.length p.c5)∧W'.cell? ⟨b1,o1+k,none⟩=some (.int .i64 y))) ?_ (fun hHeld=>?_)
           · (try dsimp only) <;> (first | exact HS'.out _ (by assumption) | exact HS'.out _ hB0.drew)
           refine tk 0 rfl ?_
           try simp only [Act.put,lyA,lyZ,lyS]
           refine tk 1 rfl ?_
           try simp only [Act.put,lyA,lyZ,lyS]
           refine tk 2 rfl ?_
           try simp only [Act.put,lyA,lyZ,lyS]
           refine tk 3 rfl ?_
           try simp only [Act.put,lyA,lyZ,lyS]
           refine tk 4 rfl ?_
           try simp only [Act.put,lyA,lyZ,lyS]
           refine tk 5 rfl ?_
           try simp only [Act.put,lyA,lyZ,lyS]
           refine tk 6 rfl ?_
           try simp only [Act.put,lyA,lyZ,lyS]
           refine tk 7 rfl ?_
           try simp only [Act.put,lyA,lyZ,lyS]
           refine tk 8 rfl ?_
           try simp only [Act.put,lyA,lyZ,lyS]
           refine tk 9 rfl ?_
           try simp only [Act.put,lyA,lyZ,lyS]
           refine tk 10 rfl ?_
           try simp only [Act.put,lyA,lyZ,lyS]
           refine rdy [11] ?_
           refine rdC rfl (fun K hK=>?_) ?_
           (go_simp;(with_reducible refine (HC.out _ hB0.drew).mono ?_);rintro e w3 ⟨rfl,hb3⟩;have hB3:=hB0.drew.trans hb3;go_wp2_with fail)
           refine hK.out _ _ ?_ (fun hH1=>?_)
           · (try dsimp only) <;> (first | exact HS'.out _ (by assumption) | exact HS'.out _ hB0.drew)
           clear hK K hHeld
           try simp only [Act.put,lyA,lyZ,lyS]
           refine tk 12 rfl ?_
           try simp only [Act.put,lyA,lyZ,lyS]
           refine tk 13 rfl ?_
           try simp only [Act.put,lyA,lyZ,lyS]
           refine tkP 14 rfl ?_
           try simp only [Act.put,lyA,lyZ,lyS]
           refine tkP 15 rfl ?_
           try simp only [Act.put,lyA,lyZ,lyS]
           refine tkP 16 rfl ?_
           try simp only [Act.put,lyA,lyZ,lyS]
           refine tkP 17 rfl ?_
           try simp only [Act.put,lyA,lyZ,lyS]
           refine tkP 18 rfl ?_
           try simp only [Act.put,lyA,lyZ,lyS]
           refine tkP 19 rfl ?_
           try simp only [Act.put,lyA,lyZ,lyS]
           refine tkP 20 rfl ?_
           try simp only [Act.put,lyA,lyZ,lyS]
           refine tkP 21 rfl ?_
           try simp only [Act.put,lyA,lyZ,lyS]
           refine tkP 22 rfl ?_
           try simp only [Act.put,lyA,lyZ,lyS]
           refine tkP 23 rfl ?_
           try simp only [Act.put,lyA,lyZ,lyS]
           refine tkP 24 rfl ?_
           try simp only [Act.put,lyA,lyZ,lyS]
           refine tk 25 rfl ?_
           try simp only [Act.put,lyA,lyZ,lyS]
           refine tk 26 rfl ?_
           try simp only [Act.put,lyA,lyZ,lyS]
           refine wpAnyH_done (by kernel_rfl) ?_ _
           rotate_left
           exact AllReadyH.nil
           all_goals
             go_wp2_with fail
             go_ret
             exact ⟨by rw [hF.out];rfl,(HB.out.below hB3).bel⟩
          | true =>
           rw [hs,Bool.true_and] at hM2
           have hv:hasV m y=true:=by unfold stands at hs;rw [Bool.and_eq_true] at hs;exact hs.1
           obtain ⟨v,rfl,hvk⟩:=hasV_yes hv
           have hcp:=hcapv.out (by omega)
           have hrg:rgA m (v:Int)=m.vers[v].rg:=by unfold rgA;rw [Int.toNat_natCast,List.getElem?_eq_getElem hvk]
           obtain ⟨b2,o2,ha2,hbl2,dv,_,r0,r1,r2,_⟩:=HV.out wo HB.out v hvk
           obtain ⟨x,hx⟩:∃ x,x=m.vers[v]:=⟨_,rfl⟩
           rw [← hx] at r2 hrg
           rw [hs] at HC
           rw [hrg] at hM2
           have HM2:=Lib.hid hM2
           have HA2:=Lib.hid ha2
           have h3:(0:Int)≤(v:Int):=by omega
           have h4:(v:Int)<(m.vers.length:Int):=by omega
           have HS':Hid (∀ W',Below wo.heap.size wo W'→W'.cell? ⟨w.heap.size,0,none⟩=some (.string m.nm)∧W'.cell? ⟨w.heap.size,1,none⟩=some (.slice p.a1 m.vars.length p.c1)∧W'.cell? ⟨w.heap.size,2,none⟩=some (.slice p.a2 m.evs.length p.c2)∧W'.cell? ⟨w.heap.size,3,none⟩=some (.slice p.a3 m.regs.length p.c3)∧W'.cell? ⟨w.heap.size,4,none⟩=some (.slice (some ⟨b2,o2,none⟩) m.vers.length p.c4)∧W'.cell? ⟨w.heap.size,5,none⟩=some (.slice p.a5 m.trns.length p.c5)∧W'.cell? ⟨b1,o1+k,none⟩=some (.int .i64 v)∧W'.cell? ⟨b2,o2+v * 8+2,none⟩=some (.int .i64 x.rg)):=fun W' g=>by
             obtain ⟨q1,q2⟩:=HX.out W' g
             obtain ⟨x0,x1,x2,x3,x4,x5,_⟩:=q1.box
             exact ⟨x0,x1,x2,x3,by rw [← HA2.out];exact x4,x5,q2,(g.cell (p:=⟨b2,o2+v * 8+2,none⟩) hbl2).trans r2⟩
           rw [ha2] at HC
           cases hq:(x.rg == (k:Int)) with
           | true =>
            have hq':(x.rg != (k:Int))=false:=by simp only [bne,hq];rfl
            have hT:=Lib.hid ((HS.out true (by rw [HM2.out,hq])).1 rfl)
            clear HS HMay hy1 hd1' hM2 hs hv hrg ha2 hx hcapv HV r0 r1 HM2 HA2
            go_wp2_with fail
            refine wp_region_any (by kernel_rfl) ?_
            change wpAny _ _ _ _ _ _ _ (World.drew _)
            refine wpAny_of_heldS (S:=(fun W'=>W'.cell? ⟨w.heap.size,0,none⟩=some (.string m.nm)∧W'.cell? ⟨w.heap.size,1,none⟩=some (.slice p.a1 m.vars.length p.c1)∧W'.cell? ⟨w.heap.size,2,none⟩=some (.slice p.a2 m.evs.length p.c2)∧W'.cell? ⟨w.heap.size,3,none⟩=some (.slice p.a3 m.regs.length p.c3)∧W'.cell? ⟨w.heap.size,4,none⟩=some (.slice (some ⟨b2,o2,none⟩) m.vers.length p.c4)∧W'.cell? ⟨w.heap.size,5,none⟩=some (.slice p.a5 m.trns.length p.c5)∧W'.cell? ⟨b1,o1+k,none⟩=some (.int .i64 v)∧W'.cell? ⟨b2,o2+v * 8+2,none⟩=some (.int .i64 x.rg))) ?_ (fun hHeld=>?_)
            · (try dsimp only) <;> (first | exact HS'.out _ (by assumption) | exact HS'.out _ hB0.drew)
            refine tk 0 rfl ?_
            try simp only [Act.put,lyA,lyZ,lyS]
            refine tk 1 rfl ?_
            try simp only [Act.put,lyA,lyZ,lyS]
            refine tk 2 rfl ?_
            try simp only [Act.put,lyA,lyZ,lyS]
            refine tk 3 rfl ?_
            try simp only [Act.put,lyA,lyZ,lyS]
            refine tk 4 rfl ?_
            try simp only [Act.put,lyA,lyZ,lyS]
            refine tk 5 rfl ?_
            try simp only [Act.put,lyA,lyZ,lyS]
            refine tk 6 rfl ?_
            try simp only [Act.put,lyA,lyZ,lyS]
            refine tk 7 rfl ?_
            try simp only [Act.put,lyA,lyZ,lyS]
            refine tk 8 rfl ?_
            try simp only [Act.put,lyA,lyZ,lyS]
            refine tk 9 rfl ?_
            try simp only [Act.put,lyA,lyZ,lyS]
            refine tk 10 rfl ?_
            try simp only [Act.put,lyA,lyZ,lyS]
            refine rdy [11] ?_
            refine rdC rfl (fun K hK=>?_) ?_
            (go_simp;(with_reducible refine (HC.out _ hB0.drew).mono ?_);rintro e w3 ⟨rfl,hb3⟩;have hB3:=hB0.drew.trans hb3;go_wp2_with fail)
            refine hK.out _ _ ?_ (fun hH1=>?_)
            · (try dsimp only) <;> (first | exact HS'.out _ (by assumption) | exact HS'.out _ hB0.drew)
            clear hK K hHeld
            try simp only [Act.put,lyA,lyZ,lyS]
            refine tk 12 rfl ?_
            try simp only [Act.put,lyA,lyZ,lyS]
            refine tk 13 rfl ?_
            try simp only [Act.put,lyA,lyZ,lyS]
            refine tk 14 rfl ?_
            try simp only [Act.put,lyA,lyZ,lyS]
            refine tk 15 rfl ?_
            try simp only [Act.put,lyA,lyZ,lyS]
            refine tk 16 rfl ?_
            try simp only [Act.put,lyA,lyZ,lyS]
            refine tk 17 rfl ?_
            try simp only [Act.put,lyA,lyZ,lyS]
            refine tk 18 rfl ?_
            try simp only [Act.put,lyA,lyZ,lyS]
            refine tk 19 rfl ?_
            try simp only [Act.put,lyA,lyZ,lyS]
            refine tk 20 rfl ?_
            try simp only [Act.put,lyA,lyZ,lyS]
            refine tk 21 rfl ?_
            try simp only [Act.put,lyA,lyZ,lyS]
            refine tk 22 rfl ?_
            try simp only [Act.put,lyA,lyZ,lyS]
            refine tk 23 rfl ?_
            try simp only [Act.put,lyA,lyZ,lyS]
            refine tk 24 rfl ?_
            try simp only [Act.put,lyA,lyZ,lyS]
            refine tk 25 rfl ?_
            try simp only [Act.put,lyA,lyZ,lyS]
            refine tk 26 rfl ?_
            try simp only [Act.put,lyA,lyZ,lyS]
            refine wpAnyH_done (by kernel_rfl) ?_ _
            rotate_left
            exact AllReadyH.nil
            all_goals
              go_wp2_with fail
              go_roundw
              case rel=>exact ⟨k+1,by omega,by go_num,HB.out.below hB3,hT.out⟩
              case measure=>simp [intOf] <;> omega
           | false =>
            have hq':(x.rg != (k:Int))=true:=by simp only [bne,hq];rfl
            have hF:=Lib.hid ((HS.out false (by rw [HM2.out,hq])).2 rfl)
            clear HS HMay hy1 hd1' hM2 hs hv hrg ha2 hx hcapv HV r0 r1 HM2 HA2
            go_wp2_with fail
            refine wp_region_any (by kernel_rfl) ?_
            change wpAny _ _ _ _ _ _ _ (World.drew _)
            refine wpAny_of_heldS (S:=(fun W'=>W'.cell? ⟨w.heap.size,0,none⟩=some (.string m.nm)∧W'.cell? ⟨w.heap.size,1,none⟩=some (.slice p.a1 m.vars.length p.c1)∧W'.cell? ⟨w.heap.size,2,none⟩=some (.slice p.a2 m.evs.length p.c2)∧W'.cell? ⟨w.heap.size,3,none⟩=some (.slice p.a3 m.regs.length p.c3)∧W'.cell? ⟨w.heap.size,4,none⟩=some (.slice (some ⟨b2,o2,none⟩) m.vers.length p.c4)∧W'.cell? ⟨w.heap.size,5,none⟩=some (.slice p.a5 m.trns.length p.c5)∧W'.cell? ⟨b1,o1+k,none⟩=some (.int .i64 v)∧W'.cell? ⟨b2,o2+v * 8+2,none⟩=some (.int .i64 x.rg))) ?_ (fun hHeld=>?_)
            · (try dsimp only) <;> (first | exact HS'.out _ (by assumption) | exact HS'.out _ hB0.drew)
            refine tk 0 rfl ?_
            try simp only [Act.put,lyA,lyZ,lyS]
            refine tk 1 rfl ?_
            try simp only [Act.put,lyA,lyZ,lyS]
            refine tk 2 rfl ?_
            try simp only [Act.put,lyA,lyZ,lyS]
            refine tk 3 rfl ?_
            try simp only [Act.put,lyA,lyZ,lyS]
            refine tk 4 rfl ?_
            try simp only [Act.put,lyA,lyZ,lyS]
            refine tk 5 rfl ?_
            try simp only [Act.put,lyA,lyZ,lyS]
            refine tk 6 rfl ?_
            try simp only [Act.put,lyA,lyZ,lyS]
            refine tk 7 rfl ?_
            try simp only [Act.put,lyA,lyZ,lyS]
            refine tk 8 rfl ?_
            try simp only [Act.put,lyA,lyZ,lyS]
            refine tk 9 rfl ?_
            try simp only [Act.put,lyA,lyZ,lyS]
            refine tk 10 rfl ?_
            try simp only [Act.put,lyA,lyZ,lyS]
            refine rdy [11] ?_
            refine rdC rfl (fun K hK=>?_) ?_
            (go_simp;(with_reducible refine (HC.out _ hB0.drew).mono ?_);rintro e w3 ⟨rfl,hb3⟩;have hB3:=hB0.drew.trans hb3;go_wp2_with fail)
            refine hK.out _ _ ?_ (fun hH1=>?_)
            · (try dsimp only) <;> (first | exact HS'.out _ (by assumption) | exact HS'.out _ hB0.drew)
            clear hK K hHeld
            try simp only [Act.put,lyA,lyZ,lyS]
            refine tk 12 rfl ?_
            try simp only [Act.put,lyA,lyZ,lyS]
            refine tk 13 rfl ?_
            try simp only [Act.put,lyA,lyZ,lyS]
            refine tk 14 rfl ?_
            try simp only [Act.put,lyA,lyZ,lyS]
            refine tk 15 rfl ?_
            try simp only [Act.put,lyA,lyZ,lyS]
            refine tk 16 rfl ?_
            try simp only [Act.put,lyA,lyZ,lyS]
            refine tk 17 rfl ?_
            try simp only [Act.put,lyA,lyZ,lyS]
            refine tk 18 rfl ?_
            try simp only [Act.put,lyA,lyZ,lyS]
            refine tk 19 rfl ?_
            try simp only [Act.put,lyA,lyZ,lyS]
            refine tk 20 rfl ?_
            try simp only [Act.put,lyA,lyZ,lyS]
            refine tk 21 rfl ?_
            try simp only [Act.put,lyA,lyZ,lyS]
            refine tk 22 rfl ?_
            try simp only [Act.put,lyA,lyZ,lyS]
            refine tk 23 rfl ?_
            try simp only [Act.put,lyA,lyZ,lyS]
            refine tk 24 rfl ?_
            try simp only [Act.put,lyA,lyZ,lyS]
            refine tk 25 rfl ?_
            try simp only [Act.put,lyA,lyZ,lyS]
            refine tk 26 rfl ?_
            try simp only [Act.put,lyA,lyZ,lyS]
            refine wpAnyH_done (by kernel_rfl) ?_ _
            rotate_left
            exact AllReadyH.nil
            all_goals
              go_wp2_with fail
              go_ret
              exact ⟨by rw [hF.out];rfl,(HB.out.below hB3).bel⟩
      · have hE:Hid (fitsM m last=true):=HL.out true (fitRow_all fun j hj=>HNo.out j (by have:=HN.out;omega))
        go_wp2_with fail
        go_ret
        exact ⟨by rw [hE.out];rfl,HB.out.bel⟩
   · have hd:((last.length:Int) != (m.regs.length:Int))=true:=by simp only [bne_iff_ne,ne_eq];omega
     have HL:Hid (fitsM m last=false):=(HF.out false).2 (by simp [hn])
     clear HF hn
     go_enter Tryz.func67,Tryz.ntmps67
     go_wp2_with fail
     refine (R1.out _ HB.out).mono ?_
     rintro e w3 ⟨rfl,g3⟩
     have H3:=Lib.hid (HB.out.below g3)
     clear g3 HB R1
     obtain ⟨x0,x1,x2,x3,x4,x5,_⟩:=H3.out.box
     go_wp2_with fail
     go_ret
     exact ⟨by rw [HL.out];rfl,H3.out.bel⟩
 · have hz2:((rz:Int) != 0)=true:=by simp only [bne_iff_ne,ne_eq];omega
   have HL:Hid (fitsM m last=false):=(HF.out false).2 (by simp [hz])
   clear HF hz
   go_enter Tryz.func67,Tryz.ntmps67
   go_wp2_with fail
   refine (R1.out _ HB.out).mono ?_
   rintro e w3 ⟨rfl,g3⟩
   have H3:=Lib.hid (HB.out.below g3)
   clear g3 HB R1
   go_wp2_with fail
   go_ret
   exact ⟨by rw [HL.out];rfl,H3.out.bel⟩
set_option maxRecDepth 100000 in
set_option maxHeartbeats 4000000 in
theorem rnote21_any {Q:Nat→BP} (m:MdlD) (p:Ph) (last left:List Int) (lv ev:Value) (w:World) (h:Mod Q w m p) (hm:MdlOk m) (hr:RowIn w lv last) (hl:last.length≤100000) (hr2:RowIn w ev left) (hl2:left.length≤1000000) :
   Calls Tryz.prog 68 #[lv,mdV m p,ev] w (RowP (noteM m last left) w):=by
 have HB:=Lib.hid (Mb.madeT h 60)
 have HFt:=Lib.hid (fun wx (g:Mb m p w.heap.size w wx)=>rfits21_any m p last lv wx g.mod hm (hr.below g.bel) (by omega))
 have HM:=Lib.hid (fun wx (g:Mb m p w.heap.size w wx) (v:Int)=>rstands_any m p v wx g.mod hm.vers)
 have HRI:=Lib.hid (fun (wx:World) (g:Below w.heap.size w wx)=>hr.below g)
 have HE:=Lib.hid (fun (wx:World) (g:Below w.heap.size w wx)=>(hr2.below g).len)
 have HV:=Lib.hid (fun wx (g:Mb m p w.heap.size w wx) (j:Nat) (hj:j<m.vers.length)=>g.mod.vers.get hj)
 have hcapv:=Lib.hid (fun h0=>h.vers.cap h0)
 obtain ⟨a2,c2,rfl,hc2,_⟩:=hr2.len
 obtain ⟨a1,c1,rfl,hc1,_⟩:=hr.len
 obtain ⟨iI,hiI,zI0,zI1,zI2⟩:=info_parts info_Num
 have hvl:=hm.vers
 have HP:Hid (∀ b,fitsM m last=b→(b=true→noteM m last left=left.foldl (note1 m) last∧riM m=(0,0,0)∧last.length=m.regs.length)∧(b=false→noteM m last left=[])):=fun b hb=>⟨fun ht=>by
     rw [ht] at hb
     refine ⟨by unfold noteM;rw [if_pos hb],?_⟩
     unfold fitsM at hb
     simp only [Bool.and_eq_true,beq_iff_eq] at hb
     exact ⟨riM_ok hb.1.1,hb.1.2⟩,fun hf=>by rw [hf] at hb;unfold noteM;rw [hb];rfl⟩
 unfold mdV at HFt HM ⊢
 clear h hm hr hr2
 cases hd:fitsM m last with
 | false =>
  have hp:=(HP.out false hd).2 rfl
  rw [hp]
  rw [hd] at HFt
  clear HP hd hp
  go_enter Tryz.func68,Tryz.ntmps68
  go_wp2_with ((with_reducible refine (HFt.out _ HB.out).mono ?_);rintro e w3 ⟨rfl,g3⟩)
  go_ret
  exact ⟨_,rfl,World.ownsRow_nil _ _ _ _,(HB.out.below g3).bel⟩
 | true =>
  obtain ⟨hp,h0,hll⟩:=(HP.out true hd).1 rfl
  rw [hp]
  rw [hd] at HFt
  have H0r:=Lib.hid h0
  clear HP hd hp h0
  obtain ⟨n2,hn2⟩:∃ n,left.length=n:=⟨_,rfl⟩
  have HN2:=Lib.hid hn2
  rw [hn2] at hl2 hc2 ⊢
  obtain ⟨n1,hn1⟩:∃ n,last.length=n:=⟨_,rfl⟩
  have HN1:=Lib.hid hn1
  have HLL:=Lib.hid hll
  rw [hn1] at hl hc1 HRI HFt ⊢
  clear hn2 hn1 hll
  go_enter Tryz.func68,Tryz.ntmps68
  go_wp2_with fail
  (with_reducible refine (HFt.out _ HB.out).mono ?_)
  rintro e w3 ⟨rfl,g3⟩
  have H3:=Lib.hid (HB.out.below g3)
  clear g3 HB HFt
  have hz3:w.heap.size+1≤w3.heap.size:=H3.out.box.sl
  have hRI:=Lib.hid (HRI.out w3 H3.out.bel)
  go_wp2_with (at_builtin;refine wpList_append_row _ rfl _ _ 31 rfl 3 (w.heap.size+1) iI (.int .i64 0) Tryz.underlying31 hiI zI0 zI1 zI2 rfl (.slice none 0 0) [] rfl (World.ownsRow_nil _ _ _ _) _ last rfl hRI.out (by have:=HN1.out;simp;omega) hz3 ?_;intro v4 w4 hown4 hgrow4 hnxt4)
  have g4:Below (w.heap.size+1) w3 w4:=Below.grown (Below.refl _ w3) hgrow4 hz3 (fun j hj=>by cases hj)
  have H4:=Lib.hid (H3.out.low g4)
  rw [List.nil_append,HN1.out] at hown4
  obtain ⟨a4,c4,rfl⟩:=ownsRow_slice hown4
  have O5:Hid (w4.ownsRow (w.heap.size+1) 3 1 (.slice a4 n1 c4) n1 (nums ((left.take 0).foldl (note1 m) last))):=by
    rw [List.take_zero];exact hown4
  clear hown4 hgrow4 hnxt4 g4 H3 hRI hz3
  go_wp2_with fail
  go_loopw [8] (fun i wr=>∃ k:Nat,k≤n2∧i=.int .i64 k∧Mb m p w.heap.size w wr∧wr.ownsRow (w.heap.size+1) 3 1 (.slice a4 n1 c4) n1 (nums ((left.take k).foldl (note1 m) last))) (fun i _=>n2 - (intOf i).toNat)
  case atStart=>exact ⟨0,by omega,rfl,H4.out,O5.out⟩
  case round =>
   obtain ⟨wo,rfl⟩:∃ wo:World,wo=wr:=⟨_,rfl⟩
   obtain ⟨k,hk,rfl,hb,ho⟩:=hrel
   have HB:=Lib.hid hb
   have HO:=Lib.hid ho
   clear hb ho H4 O5
   by_cases hlt:k<n2
   · obtain ⟨a',c',e,_,q⟩:=HE.out wo HB.out.bel
     simp only [Value.slice.injEq] at e
     obtain ⟨rfl,_,rfl⟩:=e
     have hkl:k<left.length:=by rw [HN2.out];exact hlt
     obtain ⟨b1,o1,rfl,hbl1,hc1'⟩:=q k hkl
     have hI:(k:Int)<(n2:Int):=by omega
     have hI0:(0:Int)≤(k:Int):=by omega
     have HS:Hid ((left.take (k+1)).foldl (note1 m) last=note1 m ((left.take k).foldl (note1 m) last) left[k]):=by
       rw [List.take_succ_eq_append_getElem hkl,List.foldl_append];rfl
     obtain ⟨y,hy⟩:∃ y,left[k]=y:=⟨_,rfl⟩
     rw [hy] at hc1' HS
     have HC:=Lib.hid (fun wx (g:Below wo.heap.size wo wx)=>HM.out wx (HB.out.below g) y)
     have hB0:Below wo.heap.size wo wo:=Below.refl _ _
     have HS':Hid (∀ W',Below wo.heap.size wo W'→W'.cell? ⟨w.heap.size,0,none⟩=some (.string m.nm)∧W'.cell? ⟨w.heap.size,1,none⟩=some (.slice p.a1 m.vars.length p.c1)∧W'.cell? ⟨w.heap.size,2,none⟩=some (.slice p.a2 m.evs.length p.c2)∧W'.cell? ⟨w.heap.size,3,none⟩=some (.slice p.a3 m.regs.length p.c3)∧W'.cell? ⟨w.heap.size,4,none⟩=some (.slice p.a4 m.vers.length p.c4)∧W'.cell? ⟨w.heap.size,5,none⟩=some (.slice p.a5 m.trns.length p.c5)∧W'.cell? ⟨b1,o1+k,none⟩=some (.int .i64 y)):=fun W' g=>by
       obtain ⟨x0,x1,x2,x3,x4,x5,_⟩:=(HB.out.below g).box
       exact ⟨x0,x1,x2,x3,x4,x5,(g.cell (p:=⟨b1,o1+k,none⟩) hbl1).trans hc1'⟩
     clear q hy hkl HM HRI hc1'
     cases hs:stands m y with
     | false =>
      have hN:Hid ((left.take (k+1)).foldl (note1 m) last=(left.take k).foldl (note1 m) last):=Lib.hid (HS.out.trans (by unfold note1;rw [hs];rfl))
      rw [hs] at HC
      clear hs HS HV hcapv
      go_wp2_with fail
      refine wp_region_any (by kernel_rfl) ?_
      change wpAny _ _ _ _ _ _ _ (World.drew _)
      refine wpAny_of_heldS (S:=(fun W'=>W'.cell? ⟨w.heap.size,0,none⟩=some (.string m.nm)∧W'.cell? ⟨w.heap.size,1,none⟩=some (.slice p.a1 m.vars.length p.c1)∧W'.cell? ⟨w.heap.size,2,none⟩=some (.slice p.a2 m.evs.length p.c2)∧W'.cell? ⟨w.heap.size,3,none⟩=some (.slice p.a3 m.regs.length p.c3)∧W'.cell? ⟨w.heap.size,4,none⟩=some (.slice p.a4 m.vers.length p.c4)∧W'.cell? ⟨w.heap.size,5,none⟩=some (.slice p.a5 m.trns.length p.c5)∧W'.cell? ⟨b1,o1+k,none⟩=some (.int .i64 y))) ?_ (fun hHeld=>?_)
      · (try dsimp only) <;> (first | exact HS'.out _ (by assumption) | exact HS'.out _ hB0.drew)
      refine tk 0 rfl ?_
      try simp only [Act.put,lyA,lyZ,lyS]
      refine tk 1 rfl ?_
      try simp only [Act.put,lyA,lyZ,lyS]
      refine tk 2 rfl ?_
      try simp only [Act.put,lyA,lyZ,lyS]
      refine tk 3 rfl ?_
      try simp only [Act.put,lyA,lyZ,lyS]
      refine tk 4 rfl ?_
      try simp only [Act.put,lyA,lyZ,lyS]
      refine rdy [5] ?_
      refine rdC rfl (fun K hK=>?_) ?_
      (go_simp;(with_reducible refine (HC.out _ hB0.drew).mono ?_);rintro e w5 ⟨rfl,hb5⟩;have hB5:=hB0.drew.trans hb5;go_wp2_with fail)
      refine hK.out _ _ ?_ (fun hH1=>?_)
      · (try dsimp only) <;> (first | exact HS'.out _ (by assumption) | exact HS'.out _ hB0.drew)
      clear hK K hHeld
      try simp only [Act.put,lyA,lyZ,lyS]
      refine wpAnyH_done (by kernel_rfl) ?_ _
      rotate_left
      exact AllReadyH.nil
      all_goals
        go_wp2_with fail
        go_roundw
        case rel=>exact ⟨k+1,by omega,by go_num,HB.out.below hB5,by rw [hN.out];exact ownsRow_keep HO.out hB5⟩
        case measure=>simp [intOf] <;> omega
     | true =>
      have hv:hasV m y=true:=by unfold stands at hs;rw [Bool.and_eq_true] at hs;exact hs.1
      obtain ⟨v,rfl,hvk⟩:=hasV_yes hv
      have hcp:=hcapv.out (by omega)
      have hrgA:rgA m (v:Int)=m.vers[v].rg:=by unfold rgA;rw [Int.toNat_natCast,List.getElem?_eq_getElem hvk]
      have hkd:m.vers[v].kd=1∨m.vers[v].kd=2:=by
        unfold stands at hs
        rw [Bool.and_eq_true,Int.toNat_natCast,List.getElem?_eq_getElem hvk] at hs
        simpa using hs.2
      obtain ⟨r,hrg,hrl⟩:=rg_stands H0r.out hvk hkd
      rw [hrg] at hrgA
      have hSet:Hid ((left.take (k+1)).foldl (note1 m) last=((left.take k).foldl (note1 m) last).set r v):=Lib.hid (HS.out.trans (by unfold note1;rw [if_pos hs,hrgA,Int.toNat_natCast]))
      obtain ⟨b2,o2,ha2,hbl2,dv,_,r0,r1,r2,_⟩:=HV.out wo HB.out v hvk
      rw [hrg] at r2
      rw [hs] at HC
      have hrn:r<n1:=by have:=HN1.out;have:=HLL.out;omega
      have h3:(0:Int)≤(v:Int):=by omega
      have h4:(v:Int)<(m.vers.length:Int):=by omega
      have hr0:(0:Int)≤(r:Int):=by omega
      have hr1:(r:Int)<(n1:Int):=by omega
      obtain ⟨g,c1',e⟩:=ownsRow_pos HO.out (by omega)
      simp only [Value.slice.injEq,true_and] at e
      obtain ⟨rfl,rfl⟩:=e
      have hcap:n1≤c4:=by
        rcases HO.out.2 with ⟨e,_⟩ | ⟨g',c',_,e,_,_,hc,_⟩
        · cases e
        · simp only [Value.slice.injEq] at e;omega
      have hgl:=HO.out.lt g rfl
      have HW:Hid (∀ W',Below wo.heap.size wo W'→W'.cell? ⟨w.heap.size,4,none⟩=some (.slice (some ⟨b2,o2,none⟩) m.vers.length p.c4)∧W'.cell? ⟨b1,o1+k,none⟩=some (.int .i64 v)∧W'.cell? ⟨b2,o2+v * 8+2,none⟩=some (.int .i64 r)):=fun W' gg=>by
        obtain ⟨_,_,_,_,x4,_,q2⟩:=HS'.out W' gg
        exact ⟨by rw [← ha2];exact x4,q2,(gg.cell (p:=⟨b2,o2+v * 8+2,none⟩) hbl2).trans r2⟩
      have HFin:Hid (∀ W',Below wo.heap.size wo W'→(∃ u,W'.cell? ⟨g,r,none⟩=some u)∧W'.frozen? ⟨g,r,none⟩=false∧Mb m p w.heap.size w (W'.setCell ⟨g,r,none⟩ (.int .i64 v))∧(W'.setCell ⟨g,r,none⟩ (.int .i64 v)).ownsRow (w.heap.size+1) 3 1 (.slice (some ⟨g,0,none⟩) n1 c4) n1 (nums ((left.take (k+1)).foldl (note1 m) last))):=fun W' gg=>by
        have ho:=ownsRow_keep HO.out gg
        obtain ⟨u,hu⟩:∃ u,(nums ((left.take k).foldl (note1 m) last))[r]? = some u:=⟨_,List.getElem?_eq_getElem (by rw [HO.out.1];omega)⟩
        refine ⟨⟨u,(ho.cellAt r (by omega)).trans hu⟩,ho.frozenAt r,(HB.out.below gg).set (by omega) (Nat.le_refl _) _,?_⟩
        have e4:nums ((left.take (k+1)).foldl (note1 m) last)=(nums ((left.take k).foldl (note1 m) last)).set r (.int .i64 v):=by
          rw [hSet.out];simp [nums,List.map_set]
        rw [e4];exact (ho.stored r (.int .i64 v)).1
      clear hv hrgA hkd hrl hs HS HV hcapv hrg hSet r0 r1 r2 ha2
      go_wp2_with fail
      refine wp_region_any (by kernel_rfl) ?_
      change wpAny _ _ _ _ _ _ _ (World.drew _)
      refine wpAny_of_heldS (S:=(fun W'=>W'.cell? ⟨w.heap.size,0,none⟩=some (.string m.nm)∧W'.cell? ⟨w.heap.size,1,none⟩=some (.slice p.a1 m.vars.length p.c1)∧W'.cell? ⟨w.heap.size,2,none⟩=some (.slice p.a2 m.evs.length p.c2)∧W'.cell? ⟨w.heap.size,3,none⟩=some (.slice p.a3 m.regs.length p.c3)∧W'.cell? ⟨w.heap.size,4,none⟩=some (.slice p.a4 m.vers.length p.c4)∧W'.cell? ⟨w.heap.size,5,none⟩=some (.slice p.a5 m.trns.length p.c5)∧W'.cell? ⟨b1,o1+k,none⟩=some (.int .i64 v))) ?_ (fun hHeld=>?_)
      · (try dsimp only) <;> (first | exact HS'.out _ (by assumption) | exact HS'.out _ hB0.drew)
      refine tk 0 rfl ?_
      try simp only [Act.put,lyA,lyZ,lyS]
      refine tk 1 rfl ?_
      try simp only [Act.put,lyA,lyZ,lyS]
      refine tk 2 rfl ?_
      try simp only [Act.put,lyA,lyZ,lyS]
      refine tk 3 rfl ?_
      try simp only [Act.put,lyA,lyZ,lyS]
      refine tk 4 rfl ?_
      try simp only [Act.put,lyA,lyZ,lyS]
      refine rdy [5] ?_
      refine rdC rfl (fun K hK=>?_) ?_
      (go_simp;(with_reducible refine (HC.out _ hB0.drew).mono ?_);rintro e w5 ⟨rfl,hb5⟩;have hB5:=hB0.drew.trans hb5;go_wp2_with fail)
      refine hK.out _ _ ?_ (fun hH1=>?_)
      · (try dsimp only) <;> (first | exact HS'.out _ (by assumption) | exact HS'.out _ hB0.drew)
      clear hK K hHeld
      try simp only [Act.put,lyA,lyZ,lyS]
      refine wpAnyH_done (by kernel_rfl) ?_ _
      rotate_left
      exact AllReadyH.nil
      all_goals
        clear HS' HC
        go_wp2_with fail
        refine wp_region_any (by kernel_rfl) ?_
        change wpAny _ _ _ _ _ _ _ (World.drew _)
        refine wpAny_sink (n:=15) (o:=⟨none,.store 3 (.tmp 42) (.tmp 41),0, "ref.go:73", #[⟨14,.data⟩,⟨13,.data⟩,⟨0,.phase⟩,⟨1,.phase⟩,⟨2,.phase⟩,⟨3,.phase⟩,⟨4,.phase⟩,⟨5,.phase⟩,⟨6,.phase⟩,⟨7,.phase⟩,⟨8,.phase⟩,⟨9,.phase⟩,⟨10,.phase⟩,⟨11,.phase⟩,⟨12,.phase⟩,⟨13,.phase⟩],none⟩) (ops':=_) (by decide) (by kernel_rfl) (by rfl) (by rfl) ?_
        refine wpAny_sink (n:=14) (o:=⟨some 42,.indexAddr 31 (.tmp 28) (.tmp 37),0, "ref.go:73", #[⟨0,.data⟩,⟨9,.data⟩,⟨0,.phase⟩,⟨1,.phase⟩,⟨2,.phase⟩,⟨3,.phase⟩,⟨4,.phase⟩,⟨5,.phase⟩,⟨6,.phase⟩,⟨7,.phase⟩,⟨8,.phase⟩,⟨9,.phase⟩,⟨10,.phase⟩,⟨11,.phase⟩,⟨12,.phase⟩,⟨13,.phase⟩],none⟩) (ops':=#[⟨some 28,.move (.tmp 7),31, "ref.go:73", #[],none⟩,⟨some 29,.fieldAddr 60 (.tmp 4) 4,0, "ref.go:73", #[],none⟩,⟨some 30,.load 57 (.tmp 29),57, "ref.go:73", #[⟨1,.data⟩],none⟩,⟨some 31,.move (.tmp 2),31, "ref.go:73", #[],none⟩,⟨some 32,.move (.tmp 8),3, "ref.go:73", #[],none⟩,⟨some 33,.indexAddr 31 (.tmp 31) (.tmp 32),0, "ref.go:73", #[⟨3,.data⟩,⟨4,.data⟩],none⟩,⟨some 34,.load 3 (.tmp 33),3, "ref.go:73", #[⟨5,.data⟩],none⟩,⟨some 35,.indexAddr 57 (.tmp 30) (.tmp 34),0, "ref.go:73", #[⟨2,.data⟩,⟨6,.data⟩],none⟩,⟨some 36,.fieldAddr 145 (.tmp 35) 2,0, "ref.go:73", #[⟨7,.data⟩],none⟩,⟨some 37,.load 3 (.tmp 36),3, "ref.go:73", #[⟨8,.data⟩],none⟩,⟨some 38,.move (.tmp 2),31, "ref.go:73", #[],none⟩,⟨some 39,.move (.tmp 8),3, "ref.go:73", #[],none⟩,⟨some 40,.indexAddr 31 (.tmp 38) (.tmp 39),0, "ref.go:73", #[⟨10,.data⟩,⟨11,.data⟩],none⟩,⟨some 41,.load 3 (.tmp 40),3, "ref.go:73", #[⟨12,.data⟩],none⟩]) (by decide) (by kernel_rfl) (by rfl) (by rfl) ?_
        refine wpAny_of_heldS (S:=(fun W'=>W'.cell? ⟨w.heap.size,4,none⟩=some (.slice (some ⟨b2,o2,none⟩) m.vers.length p.c4)∧W'.cell? ⟨b1,o1+k,none⟩=some (.int .i64 v)∧W'.cell? ⟨b2,o2+v * 8+2,none⟩=some (.int .i64 r))) ?_ (fun hHeld=>?_)
        · (try dsimp only) <;> (exact HW.out _ hB5.drew)
        refine tk 0 rfl ?_
        try simp only [Act.put,lyA,lyZ,lyS]
        refine tk 1 rfl ?_
        try simp only [Act.put,lyA,lyZ,lyS]
        refine tk 2 rfl ?_
        try simp only [Act.put,lyA,lyZ,lyS]
        refine tk 3 rfl ?_
        try simp only [Act.put,lyA,lyZ,lyS]
        refine tk 4 rfl ?_
        try simp only [Act.put,lyA,lyZ,lyS]
        refine tk 5 rfl ?_
        try simp only [Act.put,lyA,lyZ,lyS]
        refine tk 6 rfl ?_
        try simp only [Act.put,lyA,lyZ,lyS]
        refine tk 7 rfl ?_
        try simp only [Act.put,lyA,lyZ,lyS]
        refine tk 8 rfl ?_
        try simp only [Act.put,lyA,lyZ,lyS]
        refine tk 9 rfl ?_
        try simp only [Act.put,lyA,lyZ,lyS]
        refine tk 10 rfl ?_
        try simp only [Act.put,lyA,lyZ,lyS]
        refine tk 11 rfl ?_
        try simp only [Act.put,lyA,lyZ,lyS]
        refine tk 12 rfl ?_
        try simp only [Act.put,lyA,lyZ,lyS]
        refine tk 13 rfl ?_
        try simp only [Act.put,lyA,lyZ,lyS]
        refine wpAnyH_done (by kernel_rfl) ?_ _
        rotate_left
        all_goals
          have hB6:=hB5.drew
          obtain ⟨⟨u,hu⟩,hf,hF1,hF2⟩:=HFin.out _ hB6
          refine sinkQ_of fun K hK=>?_
          go_simp
          refine hK _ _ ?_
          clear hK K
          refine sinkQ_of fun K hK=>?_
          go_simp
          refine hK _ _ ?_
          clear hK K
          go_wp2_with fail
          go_roundw
          case rel=>exact ⟨k+1,by omega,by go_num,hF1,hF2⟩
          case measure=>simp [intOf] <;> omega
   · go_wp2_with fail
     go_ret
     have e:left.take k=left:=List.take_of_length_le (by have:=HN2.out;omega)
     refine ⟨_,rfl,?_,HB.out.bel⟩
     have:=HO.out
     rw [e] at this
     rw [notes_len,HN1.out]
     exact this.mono (by omega)
theorem keeps_ne {m:MdlD} (h0:riM m=(0,0,0)) {last:List Int} (hl:last.length=m.regs.length) (hf:fitRow m last=true):∀ (f s:Nat) (hs:s<m.vers.length),65≤deM m s+f→keepsF m last f s≠[]
 | 0,s,hs,hd=>by have:=deep_right h0 hs;omega
 | f+1,s,hs,hd=>by
   unfold keepsF
   split
   · rename_i ha
     obtain ⟨r,hr,hq⟩:=List.any_eq_true.1 ha
     obtain ⟨q,hql,e,ho⟩:=(sel_mem _ _ _).1 hr
     subst e
     obtain ⟨k,hk,e1,_,_,e2⟩:=rem_at h0 hl hf hql hq
     have ho':m.regs[q].own=(s:Int):=by simpa [isOwn] using ho
     have hd2:=dp_succ h0 hk hs (by rw [e2,ho'])
     have hne:=keeps_ne h0 hl hf f k hk (by omega)
     intro hnil
     rw [List.flatMap_eq_nil_iff] at hnil
     have:=hnil (q:Int) (List.mem_filter.2 ⟨hr,hq⟩)
     rw [e1] at this
     exact hne this
   · simp
set_option maxRecDepth 100000 in
set_option maxHeartbeats 4000000 in
theorem rkeeps_any {m:MdlD} {p:Ph} {last:List Int} {lv:Value} (h0:riM m=(0,0,0)) (hm:MdlOk m) (hl:last.length=m.regs.length) (hf:fitRow m last=true) (hb1:m.regs.length≤1000) (hb2:m.vers.length≤1000) :
   ∀ (f s:Nat) (hs:s<m.vers.length) (hd:65≤deM m s+f) (w:World),Mod anyM w m p→RowIn w lv last →
   Calls Tryz.prog 155 #[ixV m p,lv,.int .i64 s] w (RowP (keepsF m last f s) w)
 | 0,s,hs,hd,_,_,_=>by have:=deep_right h0 hs;omega
 | f+1,s,hs,hd,w,h,hr=>by
   have HB:=Lib.hid (Mb.madeT h 93)
   have ih:=Lib.hid (fun s hs hd w=>rkeeps_any (p:=p) (lv:=lv) h0 hm hl hf hb1 hb2 f s hs hd w)
   have HRg:=Lib.hid (fun wx (g:Mb m p w.heap.size w wx)=>rregions16_any m p s wx g.mod (by omega))
   have HRm:=Lib.hid (fun wx (g:Mb m p w.heap.size w wx) (r:Nat) (hr':r<last.length)=>rrem_any m p last lv r wx g.mod (hr.below g.bel) (by omega) hf hr' hm.vers)
   have HRI:=Lib.hid (fun (wx:World) (g:Below w.heap.size w wx)=>hr.below g)
   have HRL:=Lib.hid (fun (wx:World) (g:Below w.heap.size w wx)=>(hr.below g).len)
   obtain ⟨a1,c1,rfl,hc1,_⟩:=hr.len
   obtain ⟨iI,hiI,zI0,zI1,zI2⟩:=info_parts info_Num
   have HDn:Hid (∀ b,(ownM m s).any (remM m last)=b→(b=true→keepsF m last (f+1) s=keepsR m last f (ownM m s))∧(b=false→keepsF m last (f+1) s=[(s:Int)]∧keepsR m last f (ownM m s)=[])):=fun b hb=>⟨fun ht=>by rw [keepsF_succ,hb,ht];rfl,fun hf'=>by rw [keepsF_succ,hb,hf'];exact ⟨rfl,keepsR_nil (by rw [hb,hf'])⟩⟩
   have hkl:=keeps_le h0 hl hf (f:=f+1) hs
   have HLn:Hid (∀ k,(keepsR m last f ((ownM m s).take k)).length≤1000):=fun k=>by
     have h1:=keepsR_take_le (m:=m) (last:=last) (f:=f) (ownM m s) k
     cases hb:(ownM m s).any (remM m last) with
     | true=>rw [(HDn.out true hb).1 rfl] at hkl;omega
     | false=>rw [((HDn.out false hb).2 rfl).2,List.length_nil] at h1;omega
   have HKe:Hid ((keepsR m last f (ownM m s)=[]→keepsF m last (f+1) s=[(s:Int)])∧(keepsR m last f (ownM m s)≠[]→keepsF m last (f+1) s=keepsR m last f (ownM m s))):=by
     have hne:=keeps_ne h0 hl hf (f+1) s hs hd
     cases hb:(ownM m s).any (remM m last) with
     | true=>exact ⟨fun h=>absurd (((HDn.out true hb).1 rfl).trans h) hne,fun _=>(HDn.out true hb).1 rfl⟩
     | false=>exact ⟨fun _=>((HDn.out false hb).2 rfl).1,fun h=>absurd ((HDn.out false hb).2 rfl).2 h⟩
   have H0:=Lib.hid h0
   have HSt:Hid (∀ k (hk:k<(ownM m s).length),∃ q:Nat,(ownM m s)[k]=(q:Int)∧q<last.length∧keepsR m last f ((ownM m s).take (k+1))=keepsR m last f ((ownM m s).take k) ++ (if remM m last q then keepsF m last f (atL last q) else [])∧(remM m last q=true→∃ kk:Nat,kk<m.vers.length∧atL last q=kk∧65≤deM m kk+f)):=fun k hk=>by
     obtain ⟨q,hql,e,ho⟩:=(sel_mem _ _ _).1 (List.getElem_mem hk)
     refine ⟨q,e,by omega,?_,fun hq=>?_⟩
     · rw [List.take_succ_eq_append_getElem hk,keepsR_snoc,e]
     · obtain ⟨kk,hkk,e1,_,_,e2⟩:=rem_at h0 hl hf hql hq
       have ho':m.regs[q].own=(s:Int):=by simpa [isOwn] using ho
       have hd2:=dp_succ h0 hkk hs (by rw [e2,ho'])
       exact ⟨kk,hkk,e1,by omega⟩
   have HOL:Hid ((ownM m s).length≤1000):=Lib.hid (by have:=sel_len (isOwn (s:Int)) m.regs;have e:(ownM m s).length≤m.regs.length:=this;omega)
   obtain ⟨n1,hn1⟩:∃ n,last.length=n:=⟨_,rfl⟩
   have HN1:=Lib.hid hn1
   have hn1b:n1≤1000:=by omega
   rw [hn1] at hc1 HRI HRm ih HSt ⊢
   unfold ixV mdV at HRg ih ⊢
   unfold mdV at HRm
   clear h hr hn1 h0 hl hf hd hkl hm
   go_enter Tryz.func155,Tryz.ntmps155
   go_wp2_with fail
   (with_reducible refine (HRg.out _ HB.out).mono ?_)
   rintro e w2 ⟨v8,rfl,o8,g2⟩
   have HB2:=Lib.hid (HB.out.below g2)
   have HR8:Hid (RowIn w2 v8 (ownM m s)):=Lib.hid (RowIn.own o8)
   clear o8 g2 HB HRg
   obtain ⟨a8,c8,rfl,hc8,_⟩:=HR8.out.len
   obtain ⟨n8,hn8⟩:∃ n,(ownM m s).length=n:=⟨_,rfl⟩
   have HN8:=Lib.hid hn8
   have hn8b:n8≤1000:=by rw [← hn8];exact HOL.out
   have HRL8:=Lib.hid (HR8.out.len)
   rw [hn8] at hc8 ⊢
   have HTk:Hid (keepsR m last f (ownM m s)=keepsR m last f ((ownM m s).take n8)):=Lib.hid (by rw [List.take_of_length_le (by omega)])
   clear hn8 HR8 HOL
   go_wp2_with fail
   go_loopw [7,9] (fun o i wr=>∃ k:Nat,k≤n8∧i=.int .i64 k∧Below w2.heap.size w2 wr∧wr.ownsRow w2.heap.size 3 1 o (keepsR m last f ((ownM m s).take k)).length (nums (keepsR m last f ((ownM m s).take k)))) (fun _ i _=>n8 - (intOf i).toNat)
   case atStart=>exact ⟨0,by omega,rfl,Below.refl _ _,World.ownsRow_nil _ _ _ _⟩
   case round =>
    obtain ⟨wo,rfl⟩:∃ wo:World,wo=wr:=⟨_,rfl⟩
    obtain ⟨k,hk,rfl,hb,ho⟩:=hrel
    rename_i o
    have HBo:=Lib.hid hb
    have HO:=Lib.hid ho
    clear hb ho
    by_cases hlt:k<n8
    · have hI:(k:Int)<(n8:Int):=by omega
      have hI0:(0:Int)≤(k:Int):=by omega
      have hkl:k<(ownM m s).length:=by rw [HN8.out];exact hlt
      obtain ⟨q,eq,hql,hsn,hrm⟩:=HSt.out k hkl
      obtain ⟨a',c',e,_,q8⟩:=HRL8.out
      obtain ⟨b8,o8,ea8,hbl8,hcl8⟩:=q8 k hkl
      simp only [Value.slice.injEq] at e
      obtain ⟨rfl,_,rfl⟩:=e
      subst ea8
      rw [eq] at hcl8
      have HS6:Hid (∀ W',Below w2.heap.size w2 W'→W'.cell? ⟨w.heap.size,0,none⟩=some (.string m.nm)∧W'.cell? ⟨w.heap.size,1,none⟩=some (.slice p.a1 m.vars.length p.c1)∧W'.cell? ⟨w.heap.size,2,none⟩=some (.slice p.a2 m.evs.length p.c2)∧W'.cell? ⟨w.heap.size,3,none⟩=some (.slice p.a3 m.regs.length p.c3)∧W'.cell? ⟨w.heap.size,4,none⟩=some (.slice p.a4 m.vers.length p.c4)∧W'.cell? ⟨w.heap.size,5,none⟩=some (.slice p.a5 m.trns.length p.c5)∧W'.cell? ⟨b8,o8+k,none⟩=some (.int .i64 q)):=fun W' g=>by
        obtain ⟨x0,x1,x2,x3,x4,x5,_⟩:=(HB2.out.below g).box
        exact ⟨x0,x1,x2,x3,x4,x5,(g.cell (p:=⟨b8,o8+k,none⟩) hbl8).trans hcl8⟩
      have HC:=Lib.hid (fun wx (g:Below w2.heap.size w2 wx)=>HRm.out wx (HB2.out.below g) q hql)
      have hB0:Below wo.heap.size wo wo:=Below.refl _ _
      have HSn:=Lib.hid hsn
      have HMn:=Lib.hid hrm
      have HLk:=Lib.hid (HLn.out (k+1))
      clear q8 hkl eq hcl8 hsn hrm HRm HSt
      cases hr:remM m last q with
      | false =>
       have hN:Hid (keepsR m last f ((ownM m s).take (k+1))=keepsR m last f ((ownM m s).take k)):=Lib.hid (by rw [HSn.out,hr];simp)
       rw [hr] at HC
       clear hr HSn HMn
       go_wp2_with fail
       refine wp_region_any (by kernel_rfl) ?_
       change wpAny _ _ _ _ _ _ _ (World.drew _)
       refine wpAny_of_heldS (S:=(fun W'=>W'.cell? ⟨w.heap.size,0,none⟩=some (.string m.nm)∧W'.cell? ⟨w.heap.size,1,none⟩=some (.slice p.a1 m.vars.length p.c1)∧W'.cell? ⟨w.heap.size,2,none⟩=some (.slice p.a2 m.evs.length p.c2)∧W'.cell? ⟨w.heap.size,3,none⟩=some (.slice p.a3 m.regs.length p.c3)∧W'.cell? ⟨w.heap.size,4,none⟩=some (.slice p.a4 m.vers.length p.c4)∧W'.cell? ⟨w.heap.size,5,none⟩=some (.slice p.a5 m.trns.length p.c5)∧W'.cell? ⟨b8,o8+k,none⟩=some (.int .i64 q))) ?_ (fun hHeld=>?_)
       · (try dsimp only) <;> (first | exact HS6.out _ (HBo.out.trans ((by assumption:Below wo.heap.size wo _).mono HBo.out.size)) | exact HS6.out _ HBo.out.drew)
       refine tk 0 rfl ?_
       try simp only [Act.put,lyA,lyZ,lyS]
       refine tk 1 rfl ?_
       try simp only [Act.put,lyA,lyZ,lyS]
       refine tk 2 rfl ?_
       try simp only [Act.put,lyA,lyZ,lyS]
       refine tk 3 rfl ?_
       try simp only [Act.put,lyA,lyZ,lyS]
       refine tk 4 rfl ?_
       try simp only [Act.put,lyA,lyZ,lyS]
       refine tk 5 rfl ?_
       try simp only [Act.put,lyA,lyZ,lyS]
       refine tk 6 rfl ?_
       try simp only [Act.put,lyA,lyZ,lyS]
       refine rdy [7] ?_
       refine rdC rfl (fun K hK=>?_) ?_
       (go_simp;(with_reducible refine (HC.out _ HBo.out.drew).mono ?_);rintro e w5 ⟨rfl,hb5⟩;have hB5:Below wo.heap.size wo w5:=hB0.drew.trans hb5;go_wp2_with fail)
       refine hK.out _ _ ?_ (fun hH1=>?_)
       · (try dsimp only) <;> (first | exact HS6.out _ (HBo.out.trans ((by assumption:Below wo.heap.size wo _).mono HBo.out.size)) | exact HS6.out _ HBo.out.drew)
       clear hK K hHeld
       try simp only [Act.put,lyA,lyZ,lyS]
       refine wpAnyH_done (by kernel_rfl) ?_ _
       rotate_left
       exact AllReadyH.nil
       all_goals
         go_wp2_with fail
         go_roundw
         case rel=>exact ⟨k+1,by omega,by go_num,HBo.out.trans (hB5.mono HBo.out.size),by rw [hN.out];exact ownsRow_keep HO.out hB5⟩
         case measure=>simp [intOf] <;> omega
      | true =>
       obtain ⟨kk,hkk,ekk,hdk⟩:=HMn.out hr
       have hN:Hid (keepsR m last f ((ownM m s).take (k+1))=keepsR m last f ((ownM m s).take k) ++ keepsF m last f kk):=Lib.hid (by rw [HSn.out,hr,if_pos rfl,ekk])
       rw [hr] at HC
       obtain ⟨a',c',e,_,q1⟩:=HRL.out w2 HB2.out.bel
       obtain ⟨b1,o1,ea1,hbl1,hcl1⟩:=q1 q (by rw [HN1.out];exact hql)
       simp only [Value.slice.injEq] at e
       obtain ⟨rfl,_,rfl⟩:=e
       subst ea1
       have hy:last[q]'(by rw [HN1.out];exact hql)=(kk:Int):=by
         rw [← ekk];unfold atL;rw [Int.toNat_natCast,List.getD_eq_getElem?_getD,List.getElem?_eq_getElem (by rw [HN1.out];exact hql)];rfl
       rw [hy] at hcl1
       have hqI:(q:Int)<(n1:Int):=by omega
       have hqI0:(0:Int)≤(q:Int):=by omega
       have HS7:Hid (∀ W',Below w2.heap.size w2 W'→W'.cell? ⟨w.heap.size,0,none⟩=some (.string m.nm)∧W'.cell? ⟨w.heap.size,1,none⟩=some (.slice p.a1 m.vars.length p.c1)∧W'.cell? ⟨w.heap.size,2,none⟩=some (.slice p.a2 m.evs.length p.c2)∧W'.cell? ⟨w.heap.size,3,none⟩=some (.slice p.a3 m.regs.length p.c3)∧W'.cell? ⟨w.heap.size,4,none⟩=some (.slice p.a4 m.vers.length p.c4)∧W'.cell? ⟨w.heap.size,5,none⟩=some (.slice p.a5 m.trns.length p.c5)∧W'.cell? ⟨b8,o8+k,none⟩=some (.int .i64 q)∧W'.cell? ⟨b1,o1+q,none⟩=some (.int .i64 kk)):=fun W' g=>by
         obtain ⟨x0,x1,x2,x3,x4,x5,x8⟩:=HS6.out W' g
         exact ⟨x0,x1,x2,x3,x4,x5,x8,(g.cell (p:=⟨b1,o1+q,none⟩) hbl1).trans hcl1⟩
       have HI:=Lib.hid (fun wx (g:Below w2.heap.size w2 wx)=>ih.out kk hkk hdk wx (HB2.out.below g).mod.any (HRI.out wx (HB2.out.below g).bel))
       rw [hN.out] at HLk
       have hLk:(keepsR m last f ((ownM m s).take k)).length+(keepsF m last f kk).length≤1000:=by have:=HLk.out;rw [List.length_append] at this;exact this
       have HLk2:=Lib.hid hLk
       clear hr HSn HMn q1 hy hcl1 ekk HLk ih hLk hdk
       go_wp2_with fail
       refine wp_region_any (by kernel_rfl) ?_
       change wpAny _ _ _ _ _ _ _ (World.drew _)
       refine wpAny_of_heldS (S:=(fun W'=>W'.cell? ⟨w.heap.size,0,none⟩=some (.string m.nm)∧W'.cell? ⟨w.heap.size,1,none⟩=some (.slice p.a1 m.vars.length p.c1)∧W'.cell? ⟨w.heap.size,2,none⟩=some (.slice p.a2 m.evs.length p.c2)∧W'.cell? ⟨w.heap.size,3,none⟩=some (.slice p.a3 m.regs.length p.c3)∧W'.cell? ⟨w.heap.size,4,none⟩=some (.slice p.a4 m.vers.length p.c4)∧W'.cell? ⟨w.heap.size,5,none⟩=some (.slice p.a5 m.trns.length p.c5)∧W'.cell? ⟨b8,o8+k,none⟩=some (.int .i64 q))) ?_ (fun hHeld=>?_)
       · (try dsimp only) <;> (first | exact HS6.out _ (HBo.out.trans ((by assumption:Below wo.heap.size wo _).mono HBo.out.size)) | exact HS6.out _ HBo.out.drew)
       refine tk 0 rfl ?_
       try simp only [Act.put,lyA,lyZ,lyS]
       refine tk 1 rfl ?_
       try simp only [Act.put,lyA,lyZ,lyS]
       refine tk 2 rfl ?_
       try simp only [Act.put,lyA,lyZ,lyS]
       refine tk 3 rfl ?_
       try simp only [Act.put,lyA,lyZ,lyS]
       refine tk 4 rfl ?_
       try simp only [Act.put,lyA,lyZ,lyS]
       refine tk 5 rfl ?_
       try simp only [Act.put,lyA,lyZ,lyS]
       refine tk 6 rfl ?_
       try simp only [Act.put,lyA,lyZ,lyS]
       refine rdy [7] ?_
       refine rdC rfl (fun K hK=>?_) ?_
       (go_simp;(with_reducible refine (HC.out _ HBo.out.drew).mono ?_);rintro e w5 ⟨rfl,hb5⟩;have hB5:Below wo.heap.size wo w5:=hB0.drew.trans hb5;go_wp2_with fail)
       refine hK.out _ _ ?_ (fun hH1=>?_)
       · (try dsimp only) <;> (first | exact HS6.out _ (HBo.out.trans ((by assumption:Below wo.heap.size wo _).mono HBo.out.size)) | exact HS6.out _ HBo.out.drew)
       clear hK K hHeld
       try simp only [Act.put,lyA,lyZ,lyS]
       refine wpAnyH_done (by kernel_rfl) ?_ _
       rotate_left
       exact AllReadyH.nil
       all_goals
         have HB5:=Lib.hid (HBo.out.trans (hB5.mono HBo.out.size))
         have HO5:=Lib.hid (ownsRow_keep HO.out hB5)
         clear hB0 hb5 hB5 HC HS6 HO HBo
         have hB50:Below w5.heap.size w5 w5:=Below.refl _ _
         go_wp2_with fail
         refine wp_region_any (by kernel_rfl) ?_
         change wpAny _ _ _ _ _ _ _ (World.drew _)
         refine wpAny_of_heldS (S:=(fun W'=>W'.cell? ⟨w.heap.size,0,none⟩=some (.string m.nm)∧W'.cell? ⟨w.heap.size,1,none⟩=some (.slice p.a1 m.vars.length p.c1)∧W'.cell? ⟨w.heap.size,2,none⟩=some (.slice p.a2 m.evs.length p.c2)∧W'.cell? ⟨w.heap.size,3,none⟩=some (.slice p.a3 m.regs.length p.c3)∧W'.cell? ⟨w.heap.size,4,none⟩=some (.slice p.a4 m.vers.length p.c4)∧W'.cell? ⟨w.heap.size,5,none⟩=some (.slice p.a5 m.trns.length p.c5)∧W'.cell? ⟨b8,o8+k,none⟩=some (.int .i64 q)∧W'.cell? ⟨b1,o1+q,none⟩=some (.int .i64 kk))) ?_ (fun hHeld=>?_)
         · (try dsimp only) <;> (first | exact HS7.out _ (by assumption) | exact HS7.out _ HB5.out.drew)
         refine tk 0 rfl ?_
         try simp only [Act.put,lyA,lyZ,lyS]
         refine tk 1 rfl ?_
         try simp only [Act.put,lyA,lyZ,lyS]
         refine tk 2 rfl ?_
         try simp only [Act.put,lyA,lyZ,lyS]
         refine tk 3 rfl ?_
         try simp only [Act.put,lyA,lyZ,lyS]
         refine tk 4 rfl ?_
         try simp only [Act.put,lyA,lyZ,lyS]
         refine tk 5 rfl ?_
         try simp only [Act.put,lyA,lyZ,lyS]
         refine tk 6 rfl ?_
         try simp only [Act.put,lyA,lyZ,lyS]
         refine tk 7 rfl ?_
         try simp only [Act.put,lyA,lyZ,lyS]
         refine tk 8 rfl ?_
         try simp only [Act.put,lyA,lyZ,lyS]
         refine tk 9 rfl ?_
         try simp only [Act.put,lyA,lyZ,lyS]
         refine rdy [10] ?_
         refine rdC rfl (fun K hK=>?_) ?_
         (go_simp;(with_reducible refine (HI.out _ HB5.out.drew).mono ?_);rintro e w6 ⟨v6,rfl,o6,hb6⟩;have hT6:Below w5.heap.size w5 w6:=hB50.drew.trans hb6;have hB6:Below w2.heap.size w2 w6:=HB5.out.trans (hT6.mono HB5.out.size);have O6:=Lib.hid (ownsRow_keep HO5.out hT6);have R6:=Lib.hid (RowIn.own o6);clear o6 hb6;go_wp2_with fail)
         refine hK.out _ _ ?_ (fun hH1=>?_)
         · (try dsimp only) <;> (first | exact HS7.out _ (by assumption) | exact HS7.out _ HB5.out.drew)
         clear hK K hHeld
         try simp only [Act.put,lyA,lyZ,lyS]
         refine rdy [11] ?_
         refine rdC rfl (fun K hK=>?_) ?_
         ((refine step_append_row _ (by rfl) _ _ _ (by rfl) 3 w2.heap.size iI (.int .i64 0) Tryz.underlying31 hiI zI0 zI1 zI2 (by rfl) _ (keepsR m last f ((ownM m s).take k)) (by rfl) O6.out _ (keepsF m last f kk) (by rfl) R6.out (by have:=HLk2.out;omega) hB6.size ?_;intro v7 w7 hown7 hgrow7 hnx7;have hB7:Below w2.heap.size w2 w7:=Below.grown hB6 hgrow7 hB6.size (fun j hj=>(O6.out.lt j hj).1)))
         refine hK.out _ _ ?_ (fun hH2=>?_)
         · (try dsimp only) <;> (first | exact HS7.out _ (by assumption) | exact HS7.out _ HB5.out.drew)
         clear hK K hH1
         try simp only [Act.put,lyA,lyZ,lyS]
         refine tk 12 rfl ?_
         try simp only [Act.put,lyA,lyZ,lyS]
         refine wpAnyH_done (by kernel_rfl) ?_ _
         rotate_left
         exact AllReadyH.nil
         exact AllReadyH.nil
         all_goals
           go_wp2_with fail
           go_roundw
           case rel=>exact ⟨k+1,by omega,by go_num,hB7,by rw [hN.out];exact hown7⟩
           case measure=>simp [intOf] <;> omega
    · obtain rfl:k=n8:=by omega
      rw [← HTk.out] at HO
      obtain ⟨ao,co,rfl⟩:=ownsRow_slice HO.out
      have HBw:=Lib.hid (HB2.out.below HBo.out).bel
      have hz:w.heap.size≤w2.heap.size:=HB2.out.bel.size
      have HF1:Hid (keepsR m last f (ownM m s)=[]→keepsF m last (f+1) s=[(s:Int)]):=Lib.hid HKe.out.1
      have HF2:Hid (keepsR m last f (ownM m s)≠[]→keepsF m last (f+1) s=keepsR m last f (ownM m s)):=Lib.hid HKe.out.2
      generalize keepsR m last f (ownM m s)=R at *
      clear HLn HKe HSt HRL8 HDn HTk
      cases R with
      | nil =>
       have hF:=Lib.hid (HF1.out rfl)
       have d1:(((([]:List Int).length:Nat):Int) == 0)=true:=rfl
       clear HF1 HF2
       have hzo:w.heap.size≤wo.heap.size:=HBw.out.size
       have hO:=World.ownsRow_lit (base:=w.heap.size) (e:=3) (size:=1) wo #[.int .i64 s] 1 hzo (by unfold maxLen;omega) (by simp)
       have HO2:=Lib.hid hO
       clear hO
       go_wp2_with fail
       go_ret
       exact ⟨_,rfl,by rw [hF.out];exact HO2.out,HBw.out.trans (below_al1 wo _ |>.mono hzo)⟩
      | cons x R =>
       have hF:=Lib.hid (HF2.out (by simp))
       have d1:((((x :: R).length:Nat):Int) == 0)=false:=by simp;omega
       clear HF1 HF2
       generalize hL:(x :: R).length=L at *
       go_wp2_with fail
       go_ret
       exact ⟨_,rfl,by rw [hF.out,hL];exact HO.out.mono hz,HBw.out⟩
set_option maxRecDepth 100000 in
set_option maxHeartbeats 4000000 in
theorem rends21_any {Q:Nat→BP} (m:MdlD) (p:Ph) (last:List Int) (lv:Value) (h:Int) (w:World) (h1:Mod Q w m p) (hm:MdlOk m) (hr:RowIn w lv last) (hb1:m.regs.length≤1000) (hb2:m.vers.length≤1000) (hl:last.length≤1000000) :
   Calls Tryz.prog 63 #[mdV m p,lv,.int .i64 h] w (EndsP m last h w):=by
 have HB:=Lib.hid (Mb.madeT h1 60)
 have HFt:=Lib.hid (fun wx (g:Mb m p w.heap.size w wx)=>rfits21_any m p last lv wx g.mod hm (hr.below g.bel) hl)
 have HP:Hid (∀ wx,Calls Tryz.prog 69 #[.int .i64 h,.int .i64 m.vers.length] wx fun e w'=>e=.returned (.bool (hasV m h))∧wx=w'):=fun wx=>place_any h m.vers.length wx
 have HRI:=Lib.hid (fun (wx:World) (g:Below w.heap.size w wx)=>hr.below g)
 have HRL:=Lib.hid (fun (wx:World) (g:Below w.heap.size w wx)=>(hr.below g).len)
 have HV:=Lib.hid (fun wx (g:Mb m p w.heap.size w wx) (j:Nat) (hj:j<m.vers.length)=>g.mod.vers.get hj)
 have hcapv:=Lib.hid (fun h0=>h1.vers.cap h0)
 have hvl:=hm.vers
 have HM:=Lib.hid hm
 obtain ⟨a1,c1,rfl,hc1,_⟩:=hr.len
 have HNo:Hid (endsM m last h=([],false)→∀ w',Below w.heap.size w w'→EndsP m last h w (.returned (.tuple #[.slice none 0 0,.bool false])) w'):=fun e w' g=>by
   unfold EndsP;rw [e];exact ⟨_,rfl,World.ownsRow_nil _ _ _ _,g⟩
 have HE:Hid (endsM m last h=if fitsM m last && hasV m h && (kdA m h == 8 || kdA m h == 9) && remM m last (rgA m h) then (if kdA m h == 8 then [atL last (rgA m h)] else keepsF m last 65 (atL last (rgA m h)),true) else ([],false)):=Lib.hid rfl
 unfold mdV at HFt ⊢
 clear h1 hr
 cases hd:fitsM m last with
 | false =>
  have hN:=Lib.hid (HNo.out (by rw [HE.out,hd];rfl))
  rw [hd] at HFt
  clear hd HE HNo
  go_enter Tryz.func63,Tryz.ntmps63
  go_wp2_with ((with_reducible refine (HFt.out _ HB.out).mono ?_);rintro e w3 ⟨rfl,g3⟩)
  go_ret2
  exact hN.out _ (HB.out.below g3).bel
 | true =>
  have h0:riM m=(0,0,0)∧last.length=m.regs.length∧fitRow m last=true:=by
    unfold fitsM at hd
    simp only [Bool.and_eq_true,beq_iff_eq] at hd
    exact ⟨riM_ok hd.1.1,hd.1.2,hd.2⟩
  obtain ⟨h0,hll,hfr⟩:=h0
  rw [hd] at HFt
  cases hv:hasV m h with
  | false =>
   have hN:=Lib.hid (HNo.out (by rw [HE.out,hv];simp))
   rw [hv] at HP
   clear hd HE HNo hv h0 hll hfr
   go_enter Tryz.func63,Tryz.ntmps63
   go_wp2_with fail
   (with_reducible refine (HFt.out _ HB.out).mono ?_)
   rintro e w3 ⟨rfl,g3⟩
   have HB3:=Lib.hid (HB.out.below g3)
   clear g3 HB
   obtain ⟨x0,x1,x2,x3,x4,x5,_⟩:=HB3.out.box
   go_wp2_with ((with_reducible refine (HP.out _).mono ?_);rintro e w4 ⟨rfl,rfl⟩)
   go_ret2
   exact hN.out _ HB3.out.bel
  | true =>
   obtain ⟨k,rfl,hk⟩:=hasV_yes hv
   have hk1:kdA m (k:Int)=m.vers[k].kd:=by unfold kdA;rw [Int.toNat_natCast,List.getElem?_eq_getElem hk]
   have hk2:rgA m (k:Int)=m.vers[k].rg:=by unfold rgA;rw [Int.toNat_natCast,List.getElem?_eq_getElem hk]
   have hE:=HE.out
   rw [hd,hv,hk1,hk2,Bool.true_and,Bool.true_and] at hE
   have HEk:=Lib.hid hE
   rw [hv] at HP
   have HVk:=Lib.hid (fun wx (g:Mb m p w.heap.size w wx)=>HV.out wx g k hk)
   have hPl:m.vers[k].kd=8∨m.vers[k].kd=9→∃ r:Nat,m.vers[k].rg=r∧r<m.regs.length:=fun hkd=>by
     have:=plain_at h0 hk ⟨by omega,by omega⟩
     exact ⟨m.vers[k].rg.toNat,by omega,by omega⟩
   have HPl:=Lib.hid hPl
   have hcp:=hcapv.out (by omega)
   have hi0:(0:Int)≤(k:Int):=by omega
   have hi1:(k:Int)<(m.vers.length:Int):=by omega
   have hxd:=(HM.out.verx m.vers[k] (List.getElem_mem hk)).kd
   obtain ⟨x,hx⟩:∃ x,x=m.vers[k]:=⟨_,rfl⟩
   rw [← hx] at HEk HVk HPl hxd
   have H0:=Lib.hid h0
   have HLL:=Lib.hid hll
   have HFR:=Lib.hid hfr
   obtain ⟨n1,hn1⟩:∃ n,last.length=n:=⟨_,rfl⟩
   have HN1:=Lib.hid hn1
   rw [hn1] at hl hc1 HRI HFt ⊢
   clear hd HE hv h0 hll hfr hk1 hk2 hE HV hPl hx hn1
   go_enter Tryz.func63,Tryz.ntmps63
   go_wp2_with fail
   (with_reducible refine (HFt.out _ HB.out).mono ?_)
   rintro e w3 ⟨rfl,g3⟩
   have HB3:=Lib.hid (HB.out.below g3)
   clear g3 HB HFt
   obtain ⟨x0,x1,x2,x3,x4,x5,_⟩:=HB3.out.box
   obtain ⟨b2,o2,ha2,hbl2,dv,hdv,r0,r1,r2,r3,r4,r5,r6,r7⟩:=HVk.out w3 HB3.out
   obtain ⟨da,dc,rfl⟩:=hdv.len
   have HA2:=Lib.hid ha2
   rw [ha2] at x4
   clear ha2 hdv HVk
   go_wp2_with fail
   (with_reducible refine (HP.out _).mono ?_)
   rintro e w4 ⟨rfl,rfl⟩
   have HB4:=Lib.hid (HB3.out.below (below_al1 w3 (.cells #[.string x.nm,.int .u8 x.kd,.int .i64 x.rg,.int .i64 x.ofv,.string x.en,.string x.ex,.slice da x.df.length dc,.string x.sb] 145)))
   have c1':(w3.alloc (.cells #[.string x.nm,.int .u8 x.kd,.int .i64 x.rg,.int .i64 x.ofv,.string x.en,.string x.ex,.slice da x.df.length dc,.string x.sb] 145)).cell? ⟨w3.heap.size,1,none⟩=some (.int .u8 x.kd):=by simp
   have c2':(w3.alloc (.cells #[.string x.nm,.int .u8 x.kd,.int .i64 x.rg,.int .i64 x.ofv,.string x.en,.string x.ex,.slice da x.df.length dc,.string x.sb] 145)).cell? ⟨w3.heap.size,2,none⟩=some (.int .i64 x.rg):=by simp
   have hz4:w3.heap.size<(w3.alloc (.cells #[.string x.nm,.int .u8 x.kd,.int .i64 x.rg,.int .i64 x.ofv,.string x.en,.string x.ex,.slice da x.df.length dc,.string x.sb] 145)).heap.size:=by simp
   have hsl:=HB3.out.box.sl
   by_cases hkd:x.kd=8∨x.kd=9
   · obtain ⟨r,hrg,hrl⟩:=HPl.out hkd
     have hkk:(x.kd == 8 || x.kd == 9)=true:=by rcases hkd with e | e <;> simp [e]
     have hrl2:r<last.length:=by have:=HLL.out;omega
     have hE:=HEk.out
     rw [hkk,hrg,Bool.true_and] at hE
     rw [hrg] at r2 HB4 c1' c2' hz4
     have HRm:=Lib.hid (fun wx (g:Mb m p w.heap.size w wx)=>rrem_any m p last (.slice a1 n1 c1) r wx g.mod (HRI.out wx g.bel) (by have:=HN1.out;omega) HFR.out hrl2 hvl)
     unfold mdV at HRm
     rw [HA2.out] at HRm
     cases hrm:remM m last r with
     | false =>
      have hN:=Lib.hid (HNo.out (by rw [hE,hrm];rfl))
      rw [hrm] at HRm
      clear hE HEk HPl hrm hkk hrg
      rcases hkd with e8 | e9
      · have f8:((x.kd:Int) != 8)=false:=by simp only [bne_eq_false_iff_eq];omega
        clear e8
        go_wp2_with fail
        (with_reducible refine (HRm.out _ HB4.out).mono ?_)
        rintro e w5 ⟨rfl,g5⟩
        go_wp2_with fail
        go_ret2
        exact hN.out _ (HB4.out.below g5).bel
      · have f8:((x.kd:Int) != 8)=true:=by simp only [bne_iff_ne,ne_eq];omega
        have f9:((x.kd:Int) != 9)=false:=by simp only [bne_eq_false_iff_eq];omega
        clear e9
        go_wp2_with fail
        (with_reducible refine (HRm.out _ HB4.out).mono ?_)
        rintro e w5 ⟨rfl,g5⟩
        go_wp2_with fail
        go_ret2
        exact hN.out _ (HB4.out.below g5).bel
     | true =>
      rw [hrm,if_pos rfl] at hE
      rw [hrm] at HRm
      obtain ⟨a',c',e,_,q1⟩:=HRL.out w3 HB3.out.bel
      obtain ⟨b1,o1,ea1,hbl1,hcl1⟩:=q1 r hrl2
      simp only [Value.slice.injEq] at e
      obtain ⟨rfl,_,rfl⟩:=e
      subst ea1
      obtain ⟨kk,hkk2,ekk,_⟩:=rem_at H0.out HLL.out HFR.out (by have:=HLL.out;omega) hrm
      have hy:last[r]=(kk:Int):=by
        rw [← ekk];unfold atL;rw [Int.toNat_natCast,List.getD_eq_getElem?_getD,List.getElem?_eq_getElem hrl2];rfl
      rw [hy] at hcl1
      have hrI:(r:Int)<(n1:Int):=by have:=HN1.out;omega
      have hr0:(0:Int)≤(r:Int):=by omega
      rw [ekk] at hE
      clear HEk HPl hrm hkk hrg hy ekk q1
      rcases hkd with e8 | e9
      · have hEk:Hid (endsM m last k=([(kk:Int)],true)):=Lib.hid (by rw [hE,if_pos (by simp [e8])])
        have f8:((x.kd:Int) != 8)=false:=by simp only [bne_eq_false_iff_eq];omega
        have g8:((x.kd:Int) == 8)=true:=by simp only [beq_iff_eq];omega
        clear e8 hE
        go_wp2_with fail
        (with_reducible refine (HRm.out _ HB4.out).mono ?_)
        rintro e w5 ⟨rfl,g5⟩
        have HB5:=Lib.hid (HB4.out.below g5)
        have hb35:Below w3.heap.size w3 w5:=(below_al1 w3 _).trans (g5.mono (by simp))
        have d1:=(g5.cell (p:=⟨w3.heap.size,1,none⟩) hz4).trans c1'
        have d2:=(g5.cell (p:=⟨w3.heap.size,2,none⟩) hz4).trans c2'
        have d3:=(hb35.cell (p:=⟨b1,o1+r,none⟩) hbl1).trans hcl1
        have hzo:w.heap.size≤w5.heap.size:=HB5.out.bel.size
        have HO2:=Lib.hid (World.ownsRow_lit (base:=w.heap.size) (e:=3) (size:=1) w5 #[.int .i64 kk] 1 hzo (by unfold maxLen;omega) (by simp))
        clear g5 HRm HB4 c1' c2' hcl1 x0 x1 x2 x3 x4 x5
        go_wp2_with fail
        go_ret2
        unfold EndsP
        rw [hEk.out]
        exact ⟨_,rfl,HO2.out,HB5.out.bel.trans ((below_al1 w5 _).mono hzo)⟩
      · have hEk:Hid (endsM m last k=(keepsF m last 65 kk,true)):=Lib.hid (by rw [hE,if_neg (by simp [e9])])
        have f8:((x.kd:Int) != 8)=true:=by simp only [bne_iff_ne,ne_eq];omega
        have f9:((x.kd:Int) != 9)=false:=by simp only [bne_eq_false_iff_eq];omega
        have g8:((x.kd:Int) == 8)=false:=by simp only [beq_eq_false_iff_ne,ne_eq];omega
        have HK:=Lib.hid (fun wx (g:Mb m p w.heap.size w wx)=>rkeeps_any (p:=p) (lv:=.slice (some ⟨b1,o1,none⟩) n1 c1) H0.out HM.out HLL.out HFR.out hb1 hb2 65 kk hkk2 (by omega) wx g.mod.any (HRI.out wx g.bel))
        unfold ixV mdV at HK
        clear e9 hE
        go_wp2_with fail
        (with_reducible refine (HRm.out _ HB4.out).mono ?_)
        rintro e w5 ⟨rfl,g5⟩
        have HB5:=Lib.hid (HB4.out.below g5)
        have hb35:Below w3.heap.size w3 w5:=(below_al1 w3 _).trans (g5.mono (by simp))
        have HS:Hid (∀ W',Below w5.heap.size w5 W'→W'.cell? ⟨w.heap.size,0,none⟩=some (.string m.nm)∧W'.cell? ⟨w.heap.size,1,none⟩=some (.slice p.a1 m.vars.length p.c1)∧W'.cell? ⟨w.heap.size,2,none⟩=some (.slice p.a2 m.evs.length p.c2)∧W'.cell? ⟨w.heap.size,3,none⟩=some (.slice p.a3 m.regs.length p.c3)∧W'.cell? ⟨w.heap.size,4,none⟩=some (.slice p.a4 m.vers.length p.c4)∧W'.cell? ⟨w.heap.size,5,none⟩=some (.slice p.a5 m.trns.length p.c5)∧W'.cell? ⟨w3.heap.size,1,none⟩=some (.int .u8 x.kd)∧W'.cell? ⟨w3.heap.size,2,none⟩=some (.int .i64 r)∧W'.cell? ⟨b1,o1+r,none⟩=some (.int .i64 kk)):=fun W' g=>by
          obtain ⟨x0,x1,x2,x3,x4,x5,_⟩:=(HB5.out.below g).box
          have gg:=g5.trans (g.mono g5.size)
          have gh:Below w3.heap.size w3 W':=hb35.trans (g.mono hb35.size)
          exact ⟨x0,x1,x2,x3,x4,x5,(gg.cell (p:=⟨w3.heap.size,1,none⟩) hz4).trans c1',(gg.cell (p:=⟨w3.heap.size,2,none⟩) hz4).trans c2',(gh.cell (p:=⟨b1,o1+r,none⟩) hbl1).trans hcl1⟩
        have hB0:Below w5.heap.size w5 w5:=Below.refl _ _
        clear HRm HB4 c1' c2' hcl1 x0 x1 x2 x3 x4 x5 hbl1
        obtain ⟨_,_,_,_,_,_,y1,_⟩:=HS.out w5 hB0
        go_wp2_with fail
        clear y1
        refine wp_region_any (by kernel_rfl) ?_
        change wpAny _ _ _ _ _ _ _ (World.drew _)
        refine wpAny_of_heldS (S:=(fun W'=>W'.cell? ⟨w.heap.size,0,none⟩=some (.string m.nm)∧W'.cell? ⟨w.heap.size,1,none⟩=some (.slice p.a1 m.vars.length p.c1)∧W'.cell? ⟨w.heap.size,2,none⟩=some (.slice p.a2 m.evs.length p.c2)∧W'.cell? ⟨w.heap.size,3,none⟩=some (.slice p.a3 m.regs.length p.c3)∧W'.cell? ⟨w.heap.size,4,none⟩=some (.slice p.a4 m.vers.length p.c4)∧W'.cell? ⟨w.heap.size,5,none⟩=some (.slice p.a5 m.trns.length p.c5)∧W'.cell? ⟨w3.heap.size,1,none⟩=some (.int .u8 x.kd)∧W'.cell? ⟨w3.heap.size,2,none⟩=some (.int .i64 r)∧W'.cell? ⟨b1,o1+r,none⟩=some (.int .i64 kk))) ?_ (fun hHeld=>?_)
        · (try dsimp only) <;> (first | exact HS.out _ (by assumption) | exact HS.out _ hB0.drew)
        refine tk 0 rfl ?_
        try simp only [Act.put,lyA,lyZ,lyS]
        refine tk 1 rfl ?_
        try simp only [Act.put,lyA,lyZ,lyS]
        refine tk 2 rfl ?_
        try simp only [Act.put,lyA,lyZ,lyS]
        refine tk 3 rfl ?_
        try simp only [Act.put,lyA,lyZ,lyS]
        refine tk 4 rfl ?_
        try simp only [Act.put,lyA,lyZ,lyS]
        refine tk 5 rfl ?_
        try simp only [Act.put,lyA,lyZ,lyS]
        refine tk 6 rfl ?_
        try simp only [Act.put,lyA,lyZ,lyS]
        refine tk 7 rfl ?_
        try simp only [Act.put,lyA,lyZ,lyS]
        refine rdy [8] ?_
        refine rdC rfl (fun K hK=>?_) ?_
        (go_simp;(with_reducible refine (HK.out _ (HB5.out.below hB0.drew)).mono ?_);rintro e w6 ⟨v6,rfl,o6,hb6⟩;have hB6:Below w5.heap.size w5 w6:=hB0.drew.trans hb6;go_wp2_with fail)
        refine hK.out _ _ ?_ (fun hH1=>?_)
        · (try dsimp only) <;> (first | exact HS.out _ (by assumption) | exact HS.out _ hB0.drew)
        clear hK K hHeld
        try simp only [Act.put,lyA,lyZ,lyS]
        refine tk 9 rfl ?_
        try simp only [Act.put,lyA,lyZ,lyS]
        refine tk 10 rfl ?_
        try simp only [Act.put,lyA,lyZ,lyS]
        refine wpAnyH_done (by kernel_rfl) ?_ _
        rotate_left
        exact AllReadyH.nil
        all_goals
          go_wp2_with fail
          go_ret2
          unfold EndsP
          rw [hEk.out]
          exact ⟨_,rfl,o6.mono HB5.out.bel.size,(HB5.out.below hB6).bel⟩
   · have hN:=Lib.hid (HNo.out (by rw [HEk.out,show (x.kd == 8 || x.kd == 9)=false by simp;omega];rfl))
     have f8:((x.kd:Int) != 8)=true:=by simp only [bne_iff_ne,ne_eq];omega
     have f9:((x.kd:Int) != 9)=true:=by simp only [bne_iff_ne,ne_eq];omega
     clear HEk HPl hkd
     go_wp2_with fail
     go_ret2
     exact hN.out _ HB4.out.bel
end Go.Proofs
