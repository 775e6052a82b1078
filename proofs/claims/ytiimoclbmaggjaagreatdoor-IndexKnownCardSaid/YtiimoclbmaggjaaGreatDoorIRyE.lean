/- Walks: the document's answer for what lies in what: Common, Orthogonal. -/
import Derived.Test.YtiimoclbmaggjaaGreatDoorIRyD
namespace Go.Proofs
open Go.RowKit Go.Lx Go.Md Go.Shelf Go.BigFrame Go.Rgi
set_option linter.unusedVariables false
theorem all_take {f:Int→Bool} {l:List Int} {k:Nat} (h:k<l.length):(l.take (k+1)).all f=((l.take k).all f && f l[k]):=by
 rw [List.take_succ_eq_append_getElem h,List.all_append];simp
set_option maxRecDepth 100000 in
set_option maxHeartbeats 8000000 in
theorem rcommon16_any {Q:Nat→BP} (m:MdlD) (p:Ph) (l:List Int) (lv:Value) (w:World) (h:Mod Q w m p) (h0:riM m=(0,0,0)) (hr:RowIn w lv l) (hl:l.length≤100000) (hvl:m.vers.length≤1000) (hrl:m.regs.length≤100000) :
   Calls Tryz.prog 87 #[ixV m p,lv] w fun e w'=>e=.returned (.int .i64 (comR m l))∧Below w.heap.size w w':=by
 have HB:=Lib.hid (Mb.madeT h 93)
 have HI:=Lib.hid (fun wx (g:Mb m p w.heap.size w wx) (a b:Int)=>rin16_any m p a b wx g.mod h0 (by omega) (by omega))
 have HD:=Lib.hid (fun wx (g:Mb m p w.heap.size w wx) (a:Int)=>rdepth16_any m p a wx g.mod h0 hvl hrl)
 have HO:=Lib.hid (fun wx (g:Mb m p w.heap.size w wx) (j:Nat) (hj:j<m.regs.length)=>g.mod.ownC hj)
 have hcap:=Lib.hid (fun h0=>h.regs.cap h0)
 have HRL:=Lib.hid (fun (wx:World) (g:Below w.heap.size w wx)=>(hr.below g).len)
 have HS:=Lib.hid (fun k=>comF_succ m l k)
 have HA:=Lib.hid (fun (r:Int) (k:Nat) (h:k<l.length)=>all_take (f:=fun v=>inM m v r) h)
 have HOw:=Lib.hid (fun (k:Nat) (h:k<m.regs.length)=>ownA_at (m:=m) h)
 obtain ⟨a1,c1,rfl,hc1,_⟩:=hr.len
 unfold ixV mdV at HI HD ⊢
 have HE:Hid (comR m l=(comF m l m.regs.length).1):=Lib.hid rfl
 obtain ⟨n1,hn1⟩:∃ n,l.length=n:=⟨_,rfl⟩
 have HN1:=Lib.hid hn1
 rw [hn1] at hl hc1 ⊢
 clear h h0 hr hn1
 go_enter Tryz.func87,Tryz.ntmps87
 go_wp2_with fail
 go_loopw [5,6,7] (fun b d i wr=>∃ k:Nat,k≤m.regs.length∧i=.int .i64 k∧b=.int .i64 (comF m l k).1∧d=.int .i64 (comF m l k).2∧Mb m p w.heap.size w wr) (fun _ _ i _=>m.regs.length - (intOf i).toNat)
 case atStart=>exact ⟨0,by omega,rfl,rfl,rfl,HB.out⟩
 case round =>
  obtain ⟨wo,rfl⟩:∃ wo:World,wo=wr:=⟨_,rfl⟩
  obtain ⟨k,hk,rfl,rfl,rfl,hb⟩:=hrel
  have HB5:=Lib.hid hb
  clear hb HB
  obtain ⟨x0,x1,x2,x3,x4,x5,_⟩:=HB5.out.box
  by_cases hlt:k<m.regs.length
  · have hI:(k:Int)<(m.regs.length:Int):=by omega
    have hI0:(0:Int)≤(k:Int):=by omega
    have HSk:=Lib.hid (HS.out k)
    have hSt:Hid (comStep m l (comF m l k) k=if l.all (fun v=>inM m v (k:Int)) && decide ((comF m l k).2<depM' m (ownA m k)) then ((k:Int),depM' m (ownA m k)) else comF m l k):=Lib.hid rfl
    have HAk:=Lib.hid (HA.out k)
    have hOwn:=HOw.out k hlt
    rw [hOwn] at hSt
    have HSk2:=Lib.hid (HSk.out.trans hSt.out)
    have HOk:=Lib.hid (fun wx (g:Mb m p w.heap.size w wx)=>HO.out wx g k hlt)
    have hcp:=hcap.out (by omega)
    generalize comF m l k=st at *
    obtain ⟨bst,dst⟩:=st
    dsimp only at HSk2 ⊢
    clear HSk hSt hOwn HA HOw HO hcap
    go_wp2_with fail
    go_loopw [8,9] (fun a i wr=>∃ j:Nat,j≤n1∧i=.int .i64 j∧a=.bool ((l.take j).all fun v=>inM m v k)∧Mb m p w.heap.size w wr) (fun _ i _=>n1 - (intOf i).toNat)
    case atStart=>exact ⟨0,by omega,rfl,rfl,HB5.out⟩
    case round =>
     obtain ⟨wp,rfl⟩:∃ wp:World,wp=wr:=⟨_,rfl⟩
     obtain ⟨j,hj,rfl,rfl,hb⟩:=hrel
     have HB6:=Lib.hid hb
     clear hb HB5 x0 x1 x2 x3 x4 x5
     have hB0:Below wp.heap.size wp wp:=Below.refl _ _
     by_cases hjlt:j<n1
     · have hjI:(j:Int)<(n1:Int):=by omega
       have hj0:(0:Int)≤(j:Int):=by omega
       have hjl:j<l.length:=by rw [HN1.out];exact hjlt
       have hAj:=HAk.out j hjl
       obtain ⟨a',c',e,_,q⟩:=HRL.out wp HB6.out.bel
       obtain ⟨b1,o1,ea,hbl,hcl⟩:=q j hjl
       simp only [Value.slice.injEq] at e
       obtain ⟨rfl,e',rfl⟩:=e
       clear e'
       subst ea
       have HIj:=Lib.hid (fun wx (g:Below wp.heap.size wp wx)=>HI.out wx (HB6.out.below g) l[j] k)
       obtain ⟨z,hz⟩:∃ z,l[j]=z:=⟨_,rfl⟩
       rw [hz] at hcl HIj hAj
       have HAj:=Lib.hid hAj
       clear hz q hAj hjl
       cases hall:(l.take j).all fun v=>inM m v k with
       | false =>
        have hR:Hid (((l.take (j+1)).all fun v=>inM m v k)=false):=Lib.hid (by rw [HAj.out,hall];rfl)
        obtain ⟨x0,x1,x2,x3,x4,x5,_⟩:=HB6.out.box
        clear HAj hall HIj
        go_wp2_with fail
        go_quiet (fail)
        go_wp2_with fail
        go_roundw
        case rel=>exact ⟨j+1,by omega,by go_num,by rw [hR.out],HB6.out.below (below_drewN hB0 nq)⟩
        case measure=>simp [intOf] <;> omega
       | true =>
        have hR:Hid (((l.take (j+1)).all fun v=>inM m v k)=inM m z k):=Lib.hid (by rw [HAj.out,hall];rfl)
        have HS9:Hid (∀ W',Below wp.heap.size wp W'→W'.cell? ⟨w.heap.size,0,none⟩=some (.string m.nm)∧W'.cell? ⟨w.heap.size,1,none⟩=some (.slice p.a1 m.vars.length p.c1)∧W'.cell? ⟨w.heap.size,2,none⟩=some (.slice p.a2 m.evs.length p.c2)∧W'.cell? ⟨w.heap.size,3,none⟩=some (.slice p.a3 m.regs.length p.c3)∧W'.cell? ⟨w.heap.size,4,none⟩=some (.slice p.a4 m.vers.length p.c4)∧W'.cell? ⟨w.heap.size,5,none⟩=some (.slice p.a5 m.trns.length p.c5)∧W'.cell? ⟨b1,o1+j,none⟩=some (.int .i64 z)):=fun W' g=>by
          obtain ⟨x0,x1,x2,x3,x4,x5,_⟩:=(HB6.out.below g).box
          exact ⟨x0,x1,x2,x3,x4,x5,(g.cell (p:=⟨b1,o1+j,none⟩) hbl).trans hcl⟩
        clear HAj hall hcl
        go_wp2_with fail
        refine wp_region_any (by kernel_rfl) ?_
        change wpAny _ _ _ _ _ _ _ (World.drew _)
        refine wpAny_of_heldS (S:=(fun W'=>W'.cell? ⟨w.heap.size,0,none⟩=some (.string m.nm)∧W'.cell? ⟨w.heap.size,1,none⟩=some (.slice p.a1 m.vars.length p.c1)∧W'.cell? ⟨w.heap.size,2,none⟩=some (.slice p.a2 m.evs.length p.c2)∧W'.cell? ⟨w.heap.size,3,none⟩=some (.slice p.a3 m.regs.length p.c3)∧W'.cell? ⟨w.heap.size,4,none⟩=some (.slice p.a4 m.vers.length p.c4)∧W'.cell? ⟨w.heap.size,5,none⟩=some (.slice p.a5 m.trns.length p.c5)∧W'.cell? ⟨b1,o1+j,none⟩=some (.int .i64 z))) ?_ (fun hHeld=>?_)
        · (try dsimp only) <;> (first | exact HS9.out _ (by assumption) | exact HS9.out _ hB0.drew)
        refine tk 0 rfl ?_
        try simp only [Act.put,lyA,lyZ,lyS]
        refine tk 1 rfl ?_
        try simp only [Act.put,lyA,lyZ,lyS]
        refine tk 2 rfl ?_
        try simp only [Act.put,lyA,lyZ,lyS]
        refine tk 3 rfl ?_
        try simp only [Act.put,lyA,lyZ,lyS]
        refine tk 4 rfl ?_
        try simp only [Act.put,lyA,lyZ,lyS]
        refine tk 5 rfl ?_
        try simp only [Act.put,lyA,lyZ,lyS]
        refine tk 6 rfl ?_
        try simp only [Act.put,lyA,lyZ,lyS]
        refine tk 7 rfl ?_
        try simp only [Act.put,lyA,lyZ,lyS]
        refine rdy [8] ?_
        refine rdC rfl (fun K hK=>?_) ?_
        (go_simp;(with_reducible refine (HIj.out _ hB0.drew).mono ?_);rintro e w7 ⟨rfl,hb7⟩;have hB7:Below wp.heap.size wp w7:=below_chain' hB0.drew hb7;go_wp2_with fail)
        refine hK.out _ _ ?_ (fun hH1=>?_)
        · (try dsimp only) <;> (first | exact HS9.out _ (by assumption) | exact HS9.out _ hB0.drew)
        clear hK K hHeld
        try simp only [Act.put,lyA,lyZ,lyS]
        refine tk 9 rfl ?_
        try simp only [Act.put,lyA,lyZ,lyS]
        refine tk 10 rfl ?_
        try simp only [Act.put,lyA,lyZ,lyS]
        refine wpAnyH_done (by kernel_rfl) ?_ _
        rotate_left
        exact AllReadyH.nil
        all_goals
          go_wp2_with fail
          go_roundw
          case rel=>exact ⟨j+1,by omega,by go_num,by rw [hR.out],HB6.out.below hB7⟩
          case measure=>simp [intOf] <;> omega
     · obtain rfl:j=n1:=by omega
       have hjI:¬ ((j:Int)<(j:Int)):=by omega
       have hTk:Hid (((l.take j).all fun v=>inM m v k)=l.all fun v=>inM m v k):=Lib.hid (by rw [List.take_of_length_le (by have:=HN1.out;omega)])
       rw [← hTk.out] at HSk2
       generalize ((l.take j).all fun v=>inM m v k)=ball at *
       obtain ⟨b3,o3,ha3,hbl3,r3⟩:=HOk.out wp HB6.out
       have HDk:=Lib.hid (fun wx (g:Below wp.heap.size wp wx)=>HD.out wx (HB6.out.below g) m.regs[k].own)
       have HA3:=Lib.hid ha3
       rw [ha3] at HDk
       generalize depM' m m.regs[k].own=dd at *
       have HS10:Hid (∀ W',Below wp.heap.size wp W'→W'.cell? ⟨w.heap.size,0,none⟩=some (.string m.nm)∧W'.cell? ⟨w.heap.size,1,none⟩=some (.slice p.a1 m.vars.length p.c1)∧W'.cell? ⟨w.heap.size,2,none⟩=some (.slice p.a2 m.evs.length p.c2)∧W'.cell? ⟨w.heap.size,3,none⟩=some (.slice (some ⟨b3,o3,none⟩) m.regs.length p.c3)∧W'.cell? ⟨w.heap.size,4,none⟩=some (.slice p.a4 m.vers.length p.c4)∧W'.cell? ⟨w.heap.size,5,none⟩=some (.slice p.a5 m.trns.length p.c5)∧W'.cell? ⟨b3,o3+k * 2+1,none⟩=some (.int .i64 m.regs[k].own)):=fun W' g=>by
         obtain ⟨x0,x1,x2,x3,x4,x5,_⟩:=(HB6.out.below g).box
         exact ⟨x0,x1,x2,by rw [← HA3.out];exact x3,x4,x5,(g.cell (p:=⟨b3,o3+k * 2+1,none⟩) hbl3).trans r3⟩
       generalize m.regs[k].own=ow at *
       clear r3 ha3 hTk HI HAk HOk
       go_wp2_with fail
       refine wp_region_any (by kernel_rfl) ?_
       change wpAny _ _ _ _ _ _ _ (World.drew _)
       refine wpAny_of_heldS (S:=(fun W'=>W'.cell? ⟨w.heap.size,0,none⟩=some (.string m.nm)∧W'.cell? ⟨w.heap.size,1,none⟩=some (.slice p.a1 m.vars.length p.c1)∧W'.cell? ⟨w.heap.size,2,none⟩=some (.slice p.a2 m.evs.length p.c2)∧W'.cell? ⟨w.heap.size,3,none⟩=some (.slice (some ⟨b3,o3,none⟩) m.regs.length p.c3)∧W'.cell? ⟨w.heap.size,4,none⟩=some (.slice p.a4 m.vers.length p.c4)∧W'.cell? ⟨w.heap.size,5,none⟩=some (.slice p.a5 m.trns.length p.c5)∧W'.cell? ⟨b3,o3+k * 2+1,none⟩=some (.int .i64 ow))) ?_ (fun hHeld=>?_)
       · (try dsimp only) <;> (first | exact HS10.out _ (by assumption) | exact HS10.out _ hB0.drew)
       refine tk 0 rfl ?_
       try simp only [Act.put,lyA,lyZ,lyS]
       refine tk 1 rfl ?_
       try simp only [Act.put,lyA,lyZ,lyS]
       refine tk 2 rfl ?_
       try simp only [Act.put,lyA,lyZ,lyS]
       refine tk 3 rfl ?_
       try simp only [Act.put,lyA,lyZ,lyS]
       refine tk 4 rfl ?_
       try simp only [Act.put,lyA,lyZ,lyS]
       refine tk 5 rfl ?_
       try simp only [Act.put,lyA,lyZ,lyS]
       refine tk 6 rfl ?_
       try simp only [Act.put,lyA,lyZ,lyS]
       refine tk 7 rfl ?_
       try simp only [Act.put,lyA,lyZ,lyS]
       refine rdy [8] ?_
       refine rdC rfl (fun K hK=>?_) ?_
       (go_simp;(with_reducible refine (HDk.out _ hB0.drew).mono ?_);rintro e w8 ⟨rfl,hb8⟩;have hB8:Below wp.heap.size wp w8:=below_chain' hB0.drew hb8;go_wp2_with fail)
       refine hK.out _ _ ?_ (fun hH1=>?_)
       · (try dsimp only) <;> (first | exact HS10.out _ (by assumption) | exact HS10.out _ hB0.drew)
       clear hK K hHeld
       try simp only [Act.put,lyA,lyZ,lyS]
       refine tk 9 rfl ?_
       try simp only [Act.put,lyA,lyZ,lyS]
       refine wpAnyH_done (by kernel_rfl) ?_ _
       rotate_left
       exact AllReadyH.nil
       all_goals
         cases ball with
         | false =>
          have hF:Hid (comF m l (k+1)=(bst,dst)):=Lib.hid (by rw [HSk2.out];rfl)
          clear HSk2
          go_wp2_with fail
          go_roundw
          case rel=>exact ⟨k+1,by omega,by go_num,by rw [hF.out],by rw [hF.out],HB6.out.below hB8⟩
          case measure=>simp [intOf] <;> omega
         | true =>
          cases hdd:decide (dst<dd) with
          | true =>
           have hF:Hid (comF m l (k+1)=((k:Int),dd)):=Lib.hid (by rw [HSk2.out,hdd];rfl)
           clear HSk2
           go_wp2_with fail
           go_roundw
           case rel=>exact ⟨k+1,by omega,by go_num,by rw [hF.out],by rw [hF.out],HB6.out.below hB8⟩
           case measure=>simp [intOf] <;> omega
          | false =>
           have hF:Hid (comF m l (k+1)=(bst,dst)):=Lib.hid (by rw [HSk2.out,hdd];rfl)
           clear HSk2
           go_wp2_with fail
           go_roundw
           case rel=>exact ⟨k+1,by omega,by go_num,by rw [hF.out],by rw [hF.out],HB6.out.below hB8⟩
           case measure=>simp [intOf] <;> omega
  · obtain rfl:k=m.regs.length:=by omega
    go_wp2_with fail
    go_ret
    exact ⟨by rw [HE.out];rfl,HB5.out.bel⟩
def orF (m:MdlD) (a b:Int) (r q:Nat):Bool:=decide (r≠q) && decide (0≤ownA m r) && (ownA m r == ownA m q) && inM m a r && inM m b q && underM m a (ownA m r) && underM m b (ownA m r)
theorem orthR_iff (m:MdlD) (a b:Int):orthR m a b=true↔∃ r q:Nat,r<m.regs.length∧q<m.regs.length∧orF m a b r q=true:=by
 unfold orthR
 simp only [List.any_eq_true,List.mem_range]
 exact ⟨fun ⟨r,hr,q,hq,h⟩=>⟨r,q,hr,hq,h⟩,fun ⟨r,q,hr,hq,h⟩=>⟨r,hr,q,hq,h⟩⟩
set_option maxRecDepth 100000 in
set_option maxHeartbeats 8000000 in
theorem rorth16_any {Q:Nat→BP} (m:MdlD) (p:Ph) (a b:Int) (w:World) (h:Mod Q w m p) (h0:riM m=(0,0,0)) (hvl:m.vers.length≤1000) (hrl:m.regs.length≤100000) :
   Calls Tryz.prog 79 #[ixV m p,.int .i64 a,.int .i64 b] w fun e w'=>e=.returned (.bool (orthR m a b))∧Below w.heap.size w w':=by
 have HB:=Lib.hid (Mb.madeT h 93)
 have HI:=Lib.hid (fun wx (g:Mb m p w.heap.size w wx) (a b:Int)=>rin16_any m p a b wx g.mod h0 (by omega) (by omega))
 have HU:=Lib.hid (fun wx (g:Mb m p w.heap.size w wx) (a b:Int)=>runder16_any m p a b wx g.mod h0 (by omega) (by omega))
 have HO:=Lib.hid (fun wx (g:Mb m p w.heap.size w wx) (j:Nat) (hj:j<m.regs.length)=>g.mod.ownC hj)
 have hcap:=Lib.hid (fun h0=>h.regs.cap h0)
 have HOw:=Lib.hid (fun (k:Nat) (h:k<m.regs.length)=>ownA_at (m:=m) h)
 have hYes0:=Lib.hid (fun (r q:Nat) (hr:r<m.regs.length) (hq:q<m.regs.length) (h:orF m a b r q=true)=>(orthR_iff m a b).2 ⟨r,q,hr,hq,h⟩)
 have hNo0:Hid ((∀ r,r<m.regs.length→∀ q,q<m.regs.length→orF m a b r q=false)→orthR m a b=false):=Lib.hid (fun hn=>by
   cases hc:orthR m a b with
   | false=>rfl
   | true=>obtain ⟨r,q,hr,hq,h⟩:=(orthR_iff m a b).1 hc;rw [hn r hr q hq] at h;cases h)
 have HFe:Hid (∀ r q:Nat,orF m a b r q=(decide (r≠q) && decide (0≤ownA m r) && (ownA m r == ownA m q) && inM m a r && inM m b q && underM m a (ownA m r) && underM m b (ownA m r))):=Lib.hid (fun r q=>rfl)
 unfold ixV mdV at HI HU ⊢
 clear h h0
 go_enter Tryz.func79,Tryz.ntmps79
 go_wp2_with fail
 go_loopw [7] (fun i wr=>∃ k:Nat,k≤m.regs.length∧i=.int .i64 k∧Mb m p w.heap.size w wr∧∀ r,r<k→∀ q,q<m.regs.length→orF m a b r q=false) (fun i _=>m.regs.length - (intOf i).toNat)
 case atStart=>exact ⟨0,by omega,rfl,HB.out,fun r hr=>by omega⟩
 case round =>
  obtain ⟨wo,rfl⟩:∃ wo:World,wo=wr:=⟨_,rfl⟩
  obtain ⟨i,hi,rfl,hb,hno⟩:=hrel
  have HB5:=Lib.hid hb
  have HNo:=Lib.hid hno
  clear hb HB hno
  obtain ⟨x0,x1,x2,x3,x4,x5,_⟩:=HB5.out.box
  by_cases hlt:i<m.regs.length
  · have hI:(i:Int)<(m.regs.length:Int):=by omega
    have hI0:(0:Int)≤(i:Int):=by omega
    go_wp2_with fail
    go_loopw [8,9] (fun j o wr=>∃ k:Nat,k≤m.regs.length∧j=.int .i64 k∧Mb m p w.heap.size w wr∧∀ q,q<k→orF m a b i q=false) (fun j _ _=>m.regs.length - (intOf j).toNat)
    case atStart=>exact ⟨0,by omega,rfl,HB5.out,fun r hr=>by omega⟩
    case round =>
    obtain ⟨wp,rfl⟩:∃ wp:World,wp=wr:=⟨_,rfl⟩
    obtain ⟨j,hj,rfl,hb,hno⟩:=hrel
    have HB6:=Lib.hid hb
    have HNo2:=Lib.hid hno
    clear hb HB5 hno x0 x1 x2 x3 x4 x5
    obtain ⟨x0,x1,x2,x3,x4,x5,_⟩:=HB6.out.box
    by_cases hjlt:j<m.regs.length
    · have hjI:(j:Int)<(m.regs.length:Int):=by omega
      have hj0:(0:Int)≤(j:Int):=by omega
      have hcp:=hcap.out (by omega)
      obtain ⟨b3,o3,ha3,hbl3,r3⟩:=HO.out wp HB6.out i hlt
      obtain ⟨b3',o3',ha3',hbl3',r3'⟩:=HO.out wp HB6.out j hjlt
      have HA3:=Lib.hid ha3
      rw [ha3] at ha3' x3
      simp only [Option.some.injEq,Addr.mk.injEq,and_true] at ha3'
      obtain ⟨e1,e2⟩:=ha3'
      subst e1 e2
      have hYes:=Lib.hid (hYes0.out i j hlt hjlt)
      have hNo2:Hid (orF m a b i j=false→∀ q,q<j+1→orF m a b i q=false):=Lib.hid (fun hf q hq=>by
        by_cases e:q=j
        · subst e;exact hf
        · exact HNo2.out q (by omega))
      have hfe:=HFe.out i j
      rw [HOw.out i hlt,HOw.out j hjlt,show decide (i≠j)=((i:Int) != (j:Int)) by rw [Bool.eq_iff_iff];simp only [ne_eq,decide_eq_true_eq,bne_iff_ne];omega] at hfe
      have HI1:=Lib.hid (fun wx g=>HI.out wx g a i)
      have HI2:=Lib.hid (fun wx g=>HI.out wx g b j)
      have HU1:=Lib.hid (fun wx g=>HU.out wx g a m.regs[i].own)
      have HU2:=Lib.hid (fun wx g=>HU.out wx g b m.regs[i].own)
      rw [ha3] at HI1 HI2 HU1 HU2
      generalize m.regs[i].own=oi at *
      generalize m.regs[j].own=oj at *
      have hfe:=Lib.hid hfe
      clear ha3 HO HI HU hYes0 hNo0 HFe HOw HNo HNo2 hcap
      cases d1:((i:Int) != (j:Int)) with
      | false =>
       rw [d1] at hfe
       have hNx:=Lib.hid (hNo2.out (by rw [hfe.out];simp))
       clear hfe
       go_wp2_with fail
       go_roundw
       case rel=>exact ⟨j+1,by omega,by go_num,HB6.out,hNx.out⟩
       case measure=>simp [intOf] <;> omega
      | true =>
       rw [d1] at hfe
       cases d2:decide (0≤oi) with
       | false =>
        rw [d2] at hfe
        have hNx:=Lib.hid (hNo2.out (by rw [hfe.out];simp))
        clear hfe
        go_wp2_with fail
        go_roundw
        case rel=>exact ⟨j+1,by omega,by go_num,HB6.out,hNx.out⟩
        case measure=>simp [intOf] <;> omega
       | true =>
        rw [d2] at hfe
        cases d3:(oi == oj) with
        | false =>
         rw [d3] at hfe
         have hNx:=Lib.hid (hNo2.out (by rw [hfe.out];simp))
         clear hfe
         go_wp2_with fail
         go_roundw
         case rel=>exact ⟨j+1,by omega,by go_num,HB6.out,hNx.out⟩
         case measure=>simp [intOf] <;> omega
        | true =>
         rw [d3] at hfe
         cases i1:inM m a i with
         | false =>
          rw [i1] at hfe
          have hNx:=Lib.hid (hNo2.out (by rw [hfe.out];simp))
          rw [i1] at HI1
          clear i1
          clear hfe
          go_wp2_with fail
          (with_reducible refine (HI1.out _ HB6.out).mono ?_)
          rintro e w7 ⟨rfl,g7⟩
          have HB7:=Lib.hid (HB6.out.below g7)
          clear g7 x0 x1 x2 x3 x4 x5
          obtain ⟨x0,x1,x2,x3,x4,x5,_⟩:=HB7.out.box
          rw [HA3.out] at x3
          go_wp2_with fail
          go_roundw
          case rel=>exact ⟨j+1,by omega,by go_num,HB7.out,hNx.out⟩
          case measure=>simp [intOf] <;> omega
         | true =>
          rw [i1] at hfe
          rw [i1] at HI1
          clear i1
          cases i2:inM m b j with
          | false =>
           rw [i2] at hfe
           have hNx:=Lib.hid (hNo2.out (by rw [hfe.out];simp))
           rw [i2] at HI2
           clear i2
           clear hfe
           go_wp2_with fail
           (with_reducible refine (HI1.out _ HB6.out).mono ?_)
           rintro e w7 ⟨rfl,g7⟩
           have HB7:=Lib.hid (HB6.out.below g7)
           clear g7 x0 x1 x2 x3 x4 x5
           obtain ⟨x0,x1,x2,x3,x4,x5,_⟩:=HB7.out.box
           rw [HA3.out] at x3
           go_wp2_with fail
           (with_reducible refine (HI2.out _ HB7.out).mono ?_)
           rintro e w8 ⟨rfl,g8⟩
           have HB8:=Lib.hid (HB7.out.below g8)
           clear g8 x0 x1 x2 x3 x4 x5
           obtain ⟨x0,x1,x2,x3,x4,x5,_⟩:=HB8.out.box
           rw [HA3.out] at x3
           go_wp2_with fail
           go_roundw
           case rel=>exact ⟨j+1,by omega,by go_num,HB8.out,hNx.out⟩
           case measure=>simp [intOf] <;> omega
          | true =>
           rw [i2] at hfe
           rw [i2] at HI2
           clear i2
           cases u1:underM m a oi with
           | false =>
            rw [u1] at hfe
            have hNx:=Lib.hid (hNo2.out (by rw [hfe.out];simp))
            rw [u1] at HU1
            clear u1
            clear hfe
            go_wp2_with fail
            (with_reducible refine (HI1.out _ HB6.out).mono ?_)
            rintro e w7 ⟨rfl,g7⟩
            have HB7:=Lib.hid (HB6.out.below g7)
            clear g7 x0 x1 x2 x3 x4 x5
            obtain ⟨x0,x1,x2,x3,x4,x5,_⟩:=HB7.out.box
            rw [HA3.out] at x3
            go_wp2_with fail
            (with_reducible refine (HI2.out _ HB7.out).mono ?_)
            rintro e w8 ⟨rfl,g8⟩
            have HB8:=Lib.hid (HB7.out.below g8)
            clear g8 x0 x1 x2 x3 x4 x5
            obtain ⟨x0,x1,x2,x3,x4,x5,_⟩:=HB8.out.box
            rw [HA3.out] at x3
            go_wp2_with fail
            (with_reducible refine (HU1.out _ HB8.out).mono ?_)
            rintro e w9 ⟨rfl,g9⟩
            have HB9:=Lib.hid (HB8.out.below g9)
            clear g9 x0 x1 x2 x3 x4 x5
            obtain ⟨x0,x1,x2,x3,x4,x5,_⟩:=HB9.out.box
            rw [HA3.out] at x3
            go_wp2_with fail
            go_roundw
            case rel=>exact ⟨j+1,by omega,by go_num,HB9.out,hNx.out⟩
            case measure=>simp [intOf] <;> omega
           | true =>
            rw [u1] at hfe
            rw [u1] at HU1
            clear u1
            cases u2:underM m b oi with
            | false =>
             rw [u2] at hfe
             have hNx:=Lib.hid (hNo2.out (by rw [hfe.out];simp))
             rw [u2] at HU2
             clear u2
             clear hfe
             go_wp2_with fail
             (with_reducible refine (HI1.out _ HB6.out).mono ?_)
             rintro e w7 ⟨rfl,g7⟩
             have HB7:=Lib.hid (HB6.out.below g7)
             clear g7 x0 x1 x2 x3 x4 x5
             obtain ⟨x0,x1,x2,x3,x4,x5,_⟩:=HB7.out.box
             rw [HA3.out] at x3
             go_wp2_with fail
             (with_reducible refine (HI2.out _ HB7.out).mono ?_)
             rintro e w8 ⟨rfl,g8⟩
             have HB8:=Lib.hid (HB7.out.below g8)
             clear g8 x0 x1 x2 x3 x4 x5
             obtain ⟨x0,x1,x2,x3,x4,x5,_⟩:=HB8.out.box
             rw [HA3.out] at x3
             go_wp2_with fail
             (with_reducible refine (HU1.out _ HB8.out).mono ?_)
             rintro e w9 ⟨rfl,g9⟩
             have HB9:=Lib.hid (HB8.out.below g9)
             clear g9 x0 x1 x2 x3 x4 x5
             obtain ⟨x0,x1,x2,x3,x4,x5,_⟩:=HB9.out.box
             rw [HA3.out] at x3
             go_wp2_with fail
             (with_reducible refine (HU2.out _ HB9.out).mono ?_)
             rintro e w10 ⟨rfl,g10⟩
             have HB10:=Lib.hid (HB9.out.below g10)
             clear g10 x0 x1 x2 x3 x4 x5
             obtain ⟨x0,x1,x2,x3,x4,x5,_⟩:=HB10.out.box
             rw [HA3.out] at x3
             go_wp2_with fail
             go_roundw
             case rel=>exact ⟨j+1,by omega,by go_num,HB10.out,hNx.out⟩
             case measure=>simp [intOf] <;> omega
            | true =>
             rw [u2] at hfe
             rw [u2] at HU2
             clear u2
             have hT:=Lib.hid (hYes.out (by rw [hfe.out];rfl))
             go_wp2_with fail
             (with_reducible refine (HI1.out _ HB6.out).mono ?_)
             rintro e w7 ⟨rfl,g7⟩
             have HB7:=Lib.hid (HB6.out.below g7)
             clear g7 x0 x1 x2 x3 x4 x5
             obtain ⟨x0,x1,x2,x3,x4,x5,_⟩:=HB7.out.box
             rw [HA3.out] at x3
             go_wp2_with fail
             (with_reducible refine (HI2.out _ HB7.out).mono ?_)
             rintro e w8 ⟨rfl,g8⟩
             have HB8:=Lib.hid (HB7.out.below g8)
             clear g8 x0 x1 x2 x3 x4 x5
             obtain ⟨x0,x1,x2,x3,x4,x5,_⟩:=HB8.out.box
             rw [HA3.out] at x3
             go_wp2_with fail
             (with_reducible refine (HU1.out _ HB8.out).mono ?_)
             rintro e w9 ⟨rfl,g9⟩
             have HB9:=Lib.hid (HB8.out.below g9)
             clear g9 x0 x1 x2 x3 x4 x5
             obtain ⟨x0,x1,x2,x3,x4,x5,_⟩:=HB9.out.box
             rw [HA3.out] at x3
             go_wp2_with fail
             (with_reducible refine (HU2.out _ HB9.out).mono ?_)
             rintro e w10 ⟨rfl,g10⟩
             have HB10:=Lib.hid (HB9.out.below g10)
             clear g10 x0 x1 x2 x3 x4 x5
             obtain ⟨x0,x1,x2,x3,x4,x5,_⟩:=HB10.out.box
             rw [HA3.out] at x3
             go_wp2_with fail
             go_ret
             exact ⟨by rw [hT.out];rfl,HB10.out.bel⟩
    · have hjI:¬ ((j:Int)<(m.regs.length:Int)):=by omega
      have hNx:Hid (∀ r,r<i+1→∀ q,q<m.regs.length→orF m a b r q=false):=Lib.hid (fun r hr q hq=>by
        by_cases e:r=i
        · subst e;exact HNo2.out q (by omega)
        · exact HNo.out r (by omega) q hq)
      go_wp2_with fail
      go_roundw
      case rel=>exact ⟨i+1,by omega,by go_num,HB6.out,hNx.out⟩
      case measure=>simp [intOf] <;> omega
  · obtain rfl:i=m.regs.length:=by omega
    have hF:=Lib.hid (hNo0.out HNo.out)
    go_wp2_with fail
    go_ret
    exact ⟨by rw [hF.out];rfl,HB5.out.bel⟩
end Go.Proofs
