/- Walks: the index's Under, Composite. -/
import Derived.Test.YtiimoclbmaggjaaGreatDoorIRyE
namespace Go.Proofs
open Go.RowKit Go.Lx Go.Md Go.Shelf Go.BigFrame Go.Rfu Go.Rgi
set_option linter.unusedVariables false
attribute [local go_sem] Oper.semAt_some
set_option maxRecDepth 100000 in
set_option maxHeartbeats 2000000 in
theorem icomp_any {B IB:Nat} {m:MdlD} {w:World} (h:IdxAt B m IB w) (v:Int) (hw:(Lit.int .i64 v).wf=true) :
   Calls Tryz.prog 35 #[.pointer (some ⟨IB,0,none⟩),.int .i64 v] w fun e w'=>e=.returned (.bool (compM m v))∧w=w':=by
 have HT:=Lib.hid (there_any h v)
 obtain ⟨PB,e1,q⟩:=h.i0
 obtain ⟨M,vo,f1,f2,r0⟩:=h.i2 hw
 obtain ⟨ao,co,rfl⟩:=ownsRow_slice r0
 clear h r0
 cases hv:hasV m v with
 | false =>
  have hp:compM m v=false:=by unfold compM;rw [hv];rfl
  rw [hp]
  rw [hv] at HT
  clear q e1 hv hp f1 f2
  go_enter Tryz.func35,Tryz.ntmps35
  go_wp2_with ((with_reducible refine (HT.out).mono ?_);rintro e w' ⟨rfl,rfl⟩)
  go_ret
  exact ⟨rfl,rfl⟩
 | true =>
  obtain ⟨k,rfl,hk⟩:=hasV_yes hv
  obtain ⟨c0,c1,c2,c3,_⟩:=q k hk
  have hp:compM m k=(Md.stM m k && decide (0<(ownM m k).length)):=by unfold compM;rw [hv];rfl
  rw [hp]
  rw [hv] at HT
  have h1:(0:Int)≤(k:Int):=by omega
  have h2:(k:Int)<(m.vers.length:Int):=by omega
  obtain ⟨n,hn⟩:∃ n,(ownM m k).length=n:=⟨_,rfl⟩
  rw [hn] at f2 ⊢
  clear q hv hp hk c0 c1 c2 hn
  cases hs:Md.stM m k with
  | false =>
   rw [hs] at c3
   clear f1 f2
   go_enter Tryz.func35,Tryz.ntmps35
   go_wp2_with ((with_reducible refine (HT.out).mono ?_);rintro e w' ⟨rfl,rfl⟩)
   go_ret
   exact ⟨rfl,rfl⟩
  | true =>
   rw [hs] at c3
   cases hd:decide (0<n)
   all_goals
     first | (have hd':decide ((0:Int)<(n:Int))=true:=by simp at hd ⊢;omega) | (have hd':decide ((0:Int)<(n:Int))=false:=by simp at hd ⊢;omega)
     have HDn:=Lib.hid hd
     clear hd
     go_enter Tryz.func35,Tryz.ntmps35
     go_wp2_with ((with_reducible refine (HT.out).mono ?_);rintro e w' ⟨rfl,rfl⟩)
     go_ret
     exact ⟨ret_bool (by first | rfl | exact HDn.out),rfl⟩
set_option maxRecDepth 100000 in
set_option maxHeartbeats 4000000 in
theorem iunder_any {B IB:Nat} {m:MdlD} {w:World} (h:IdxAt B m IB w) (v s:Int) (h0:riM m=(0,0,0)) :
   Calls Tryz.prog 26 #[.pointer (some ⟨IB,0,none⟩),.int .i64 v,.int .i64 s] w fun e w'=>e=.returned (.bool (underM m v s))∧Below w.heap.size w w':=by
 have HTv:=Lib.hid (fun (wx:World) (g:Below w.heap.size w wx)=>there_any (h.grown g) v)
 have HTs:=Lib.hid (fun (wx:World) (g:Below w.heap.size w wx)=>there_any (h.grown g) s)
 have HB3:Hid (Below w.heap.size w ((w.alloc (.cells #[.int .i64 s] 3)).alloc (.cells #[.bool false] 4))):=below_al2 w _ _
 obtain ⟨c5,c6,f6,z3e⟩:=two_allocs_c w (.int .i64 s) (.bool false) 3 4
 have Z3:=Lib.hid z3e
 clear z3e
 cases hv:hasV m v with
 | false =>
  have hp:underM m v s=false:=by unfold underM;rw [hv];rfl
  rw [hp]
  rw [hv] at HTv
  clear hv hp h h0
  refine calls_of_marks Tryz.func26 rfl ?_
  simp only [Tryz.ntmps26,List.size_toArray,List.length_cons,List.length_nil,Nat.reduceAdd,Nat.reduceSub,Array.replicate_succ,Array.replicate_zero,List.push_toArray,List.append_toArray,List.nil_append,List.cons_append]
  go_wp2_with fail
  go_quiet ((go_at_call 92;refine Calls.quiet_of_same (v:=.bool false) ?_;((with_reducible refine (HTv.out _ (below_drewN HB3.out _)).mono ?_));rintro e w' ⟨he,hw⟩;exact ⟨he,hw.symm⟩))
  go_wp2_with fail
  have HB4:Hid (Below w.heap.size w (((w.alloc (.cells #[.int .i64 s] 3)).alloc (.cells #[.bool false] 4)).drewN nq)):=Lib.hid (below_drewN HB3.out nq)
  have e7:((((w.alloc (.cells #[.int .i64 s] 3)).alloc (.cells #[.bool false] 4)).drewN nq).setCell ⟨w.heap.size+1,0,none⟩ (.bool false)).cell? ⟨w.heap.size+1,0,none⟩=some (.bool false):=World.cell?_setCell_same _ _ _ c6
  refine post_ret (ds:=[]) (n0:=0) (Marked.nil _ _) (v:=.bool false) ?_ ⟨rfl,HB4.out.setCell (p:=⟨w.heap.size+1,0,none⟩) (by simp only;omega) _⟩
  simp [results,Tryz.results26,go_sem,Rfu.shut,e7]
 | true =>
  rw [hv] at HTv
  cases hvs:hasV m s with
  | false =>
   have hp:underM m v s=false:=by unfold underM;rw [hvs];simp
   rw [hp]
   rw [hvs] at HTs
   clear hv hvs hp h h0
   refine calls_of_marks Tryz.func26 rfl ?_
   simp only [Tryz.ntmps26,List.size_toArray,List.length_cons,List.length_nil,Nat.reduceAdd,Nat.reduceSub,Array.replicate_succ,Array.replicate_zero,List.push_toArray,List.append_toArray,List.nil_append,List.cons_append]
   go_wp2_with fail
   go_quiet ((first | (go_at_call 92;refine Calls.quiet_of_same (v:=.bool true) ?_;((with_reducible refine (HTv.out _ (below_drewN HB3.out _)).mono ?_));rintro e w' ⟨he,hw⟩;exact ⟨he,hw.symm⟩) | (go_at_call 92;refine Calls.quiet_of_same (v:=.bool false) ?_;((with_reducible refine (HTs.out _ (below_drewN HB3.out _)).mono ?_));rintro e w' ⟨he,hw⟩;exact ⟨he,hw.symm⟩)))
   go_wp2_with fail
   have HB4:Hid (Below w.heap.size w (((w.alloc (.cells #[.int .i64 s] 3)).alloc (.cells #[.bool false] 4)).drewN nq)):=Lib.hid (below_drewN HB3.out nq)
   have e7:((((w.alloc (.cells #[.int .i64 s] 3)).alloc (.cells #[.bool false] 4)).drewN nq).setCell ⟨w.heap.size+1,0,none⟩ (.bool false)).cell? ⟨w.heap.size+1,0,none⟩=some (.bool false):=World.cell?_setCell_same _ _ _ c6
   refine post_ret (ds:=[]) (n0:=0) (Marked.nil _ _) (v:=.bool false) ?_ ⟨rfl,HB4.out.setCell (p:=⟨w.heap.size+1,0,none⟩) (by simp only;omega) _⟩
   simp [results,Tryz.results26,go_sem,Rfu.shut,e7]
  | true =>
   obtain ⟨k0,rfl,hk0⟩:=hasV_yes hv
   obtain ⟨ks,rfl,hks⟩:=hasV_yes hvs
   rw [hvs] at HTs
   have HI:=Lib.hid (fun (wx:World) (g:Below w.heap.size w wx)=>(h.grown g).i0)
   have hks0:(0:Int)≤(ks:Int):=by omega
   have hks1:(ks:Int)<(m.vers.length:Int):=by omega
   obtain ⟨PB0,i1,i2⟩:=h.i0
   obtain ⟨s0,s1,s2,s3,_⟩:=i2 ks hks
   cases hst:Md.stM m ks with
   | false =>
    have hp:underM m k0 ks=false:=by unfold underM;rw [hst];simp
    rw [hp]
    rw [hst] at s3
    have d1:=(HB3.out.cell (p:=⟨IB,0,none⟩) (World.block_lt_of_cell? w _ i1)).trans i1
    have d2:=(HB3.out.cell (p:=⟨PB0,ks * 7+3,none⟩) (World.block_lt_of_cell? w _ s3)).trans s3
    clear hv hvs hp h h0 hst HI i2 i1 s0 s1 s2 s3
    refine calls_of_marks Tryz.func26 rfl ?_
    simp only [Tryz.ntmps26,List.size_toArray,List.length_cons,List.length_nil,Nat.reduceAdd,Nat.reduceSub,Array.replicate_succ,Array.replicate_zero,List.push_toArray,List.append_toArray,List.nil_append,List.cons_append]
    go_wp2_with fail
    go_quiet ((first | (go_at_call 92;refine Calls.quiet_of_same (v:=.bool true) ?_;((with_reducible refine (HTv.out _ (below_drewN HB3.out _)).mono ?_));rintro e w' ⟨he,hw⟩;exact ⟨he,hw.symm⟩) | (go_at_call 92;refine Calls.quiet_of_same (v:=.bool true) ?_;((with_reducible refine (HTs.out _ (below_drewN HB3.out _)).mono ?_));rintro e w' ⟨he,hw⟩;exact ⟨he,hw.symm⟩)))
    go_wp2_with fail
    have HB4:Hid (Below w.heap.size w (((w.alloc (.cells #[.int .i64 ks] 3)).alloc (.cells #[.bool false] 4)).drewN nq)):=Lib.hid (below_drewN HB3.out nq)
    have e7:((((w.alloc (.cells #[.int .i64 ks] 3)).alloc (.cells #[.bool false] 4)).drewN nq).setCell ⟨w.heap.size+1,0,none⟩ (.bool false)).cell? ⟨w.heap.size+1,0,none⟩=some (.bool false):=World.cell?_setCell_same _ _ _ c6
    refine post_ret (ds:=[]) (n0:=0) (Marked.nil _ _) (v:=.bool false) ?_ ⟨rfl,HB4.out.setCell (p:=⟨w.heap.size+1,0,none⟩) (by simp only;omega) _⟩
    simp [results,Tryz.results26,go_sem,Rfu.shut,e7]
   | true =>
    rw [hst] at s3
    obtain ⟨p0,p1,_⟩:=i2 k0 hk0
    have HD:Hid (∀ b,underM m (k0:Int) ks=b↔((upsM m (arM m k0)).find? (fun p=>p == (ks:Int))).isSome=b):=fun b=>by unfold underM;rw [hv,hvs,hst];simp
    have hl:=len_par h0 hk0
    have HU:=Lib.hid (fun (wx:World) (g:Below w.heap.size w wx)=>upW_made (h.grown g) h0 (v:=arM m k0) hl.2.2 (by omega))
    have hk00:(0:Int)≤(k0:Int):=by omega
    have hk01:(k0:Int)<(m.vers.length:Int):=by omega
    have d1:=(HB3.out.cell (p:=⟨IB,0,none⟩) (World.block_lt_of_cell? w _ i1)).trans i1
    have d2:=(HB3.out.cell (p:=⟨PB0,ks * 7+3,none⟩) (World.block_lt_of_cell? w _ s3)).trans s3
    have d3:=(HB3.out.cell (p:=⟨PB0,k0 * 7,none⟩) (World.block_lt_of_cell? w _ p0)).trans p0
    have hVK:=Lib.hid hk0
    clear hv hvs h hl hst HI i2 i1 s0 s1 s2 s3 p0 p1
    refine calls_of_marks Tryz.func26 rfl ?_
    simp only [Tryz.ntmps26,List.size_toArray,List.length_cons,List.length_nil,Nat.reduceAdd,Nat.reduceSub,Array.replicate_succ,Array.replicate_zero,List.push_toArray,List.append_toArray,List.nil_append,List.cons_append]
    go_wp2_with fail
    go_quiet ((first | (go_at_call 92;refine Calls.quiet_of_same (v:=.bool true) ?_;((with_reducible refine (HTv.out _ (below_drewN HB3.out _)).mono ?_));rintro e w' ⟨he,hw⟩;exact ⟨he,hw.symm⟩) | (go_at_call 92;refine Calls.quiet_of_same (v:=.bool true) ?_;((with_reducible refine (HTs.out _ (below_drewN HB3.out _)).mono ?_));rintro e w' ⟨he,hw⟩;exact ⟨he,hw.symm⟩)))
    have HB4:Hid (Below w.heap.size w (((w.alloc (.cells #[.int .i64 ks] 3)).alloc (.cells #[.bool false] 4)).drewN nq)):=Lib.hid (below_drewN HB3.out nq)
    have c5':(((w.alloc (.cells #[.int .i64 ks] 3)).alloc (.cells #[.bool false] 4)).drewN nq).cell? ⟨w.heap.size,0,none⟩=some (.int .i64 ks):=c5
    have c6':(((w.alloc (.cells #[.int .i64 ks] 3)).alloc (.cells #[.bool false] 4)).drewN nq).cell? ⟨w.heap.size+1,0,none⟩=some (.bool false):=c6
    have f6':(((w.alloc (.cells #[.int .i64 ks] 3)).alloc (.cells #[.bool false] 4)).drewN nq).frozen? ⟨w.heap.size+1,0,none⟩=false:=f6
    have d1':(((w.alloc (.cells #[.int .i64 ks] 3)).alloc (.cells #[.bool false] 4)).drewN nq).cell? ⟨IB,0,none⟩=some (.slice (some ⟨PB0,0,none⟩) m.vers.length m.vers.length):=d1
    have d3':(((w.alloc (.cells #[.int .i64 ks] 3)).alloc (.cells #[.bool false] 4)).drewN nq).cell? ⟨PB0,k0 * 7,none⟩=some (.int .i64 (arM m k0)):=d3
    have Z3':(((w.alloc (.cells #[.int .i64 ks] 3)).alloc (.cells #[.bool false] 4)).drewN nq).heap.size=w.heap.size+1+1:=Z3.out
    clear c5 c6 f6 d1 d2 d3 HB3 HTv HTs Z3
    generalize ((w.alloc (.cells #[.int .i64 ks] 3)).alloc (.cells #[.bool false] 4)).drewN nq=w3 at *
    have Z3:=Lib.hid Z3'
    have hU:=HU.out w3 HB4.out
    rw [Z3'] at hU
    have HUx:=Lib.hid hU
    clear Z3' hU HU
    go_wp2_with (((with_reducible refine (up_any _ _ _).mono ?_);rintro e w' ⟨rfl,rfl⟩))
    have hU:=HUx.out
    obtain ⟨_,_,_,z5e⟩:=up_alloc w3 (some ⟨IB,0,none⟩) (arM m k0)
    rw [Z3.out] at z5e
    have z5:=Nat.le_of_eq z5e.symm
    have z3:=Nat.le_of_eq Z3.out.symm
    have z3':=Nat.le_of_eq Z3.out
    clear z5e HUx d1' d3'
    rw [Z3.out]
    generalize (w3.alloc (.cells #[.pointer (some ⟨IB,0,none⟩)] 45)).alloc (.cells #[.int .i64 (arM m k0)] 3)=w5 at *
    have c5:=(hU.bel.cell (p:=⟨w.heap.size,0,none⟩) (by simp only;omega)).trans c5'
    have c6:=(hU.bel.cell (p:=⟨w.heap.size+1,0,none⟩) (by simp only;omega)).trans c6'
    have f6:=(hU.bel.frozen (p:=⟨w.heap.size+1,0,none⟩) (by simp only;omega)).trans f6'
    have hv1:=hU.hv
    have hend:=hU.end_
    obtain ⟨PB,hat⟩:=hU.at
    obtain ⟨PB2,hrd⟩:=hU.reads
    have HAt:=Lib.hid hat
    have HRd:=Lib.hid hrd
    have HU1:=Lib.hid hU
    have hBW:Hid (Below w.heap.size w w5):=HB4.out.trans (hU.bel.mono HB4.out.size)
    clear hat hrd hU c5' c6' f6'
    refine wp_range_to (q:=7) (gf:=170) (lb:=#[.pointer (some ⟨w.heap.size+1+1+1,0,none⟩),.pointer (some ⟨w.heap.size+1+1,0,none⟩)]) rfl (fun _ _=>?eg) (UpAt (fun k=>upN m k (arM m k0)) (lenM m (arM m k0)) (w.heap.size+1+1+1) (w.heap.size+1+1) IB PB 0 m.vers.length m.vers.length) (fun k=>upN m k (arM m k0)) (lenM m (arM m k0)) (w.heap.size+1+1+1) (by omega) ?hit
      (fun k W=>Rd (fun b=>b=w.heap.size+1+1+1) w5 W∧∀ j,j<k→(upN m j (arM m k0) == (ks:Int))=false) (fun W=>Rd (fun b=>b=w.heap.size+1+1+1∨b=w.heap.size+1) w5 W∧W.cell? ⟨w.heap.size+1,0,none⟩=some (.bool true)∧underM m k0 ks=true)
      (fun k W h=>HAt.out _ W h.1 (by intro b hb;omega) rfl (by omega)) (fun k W W' h t=>⟨h.1.turn rfl t,h.2⟩) (fun W W' h t=>⟨h.1.turn (.inl rfl) t,(World.cell?_of_block (w:=W) (t.old (w.heap.size+1) (by omega) (by omega))).trans h.2.1,h.2.2⟩) ⟨Rd.refl _ _,fun j hj=>by omega⟩ hv1 ?hassign ?hbody ?hdone ?hstop
    case eg=>first | rfl | simp [go_sem]
    case hit=>exact fun l J Jx W hU hset hdrew hY hj hv=>up1_in (fun k=>upN m k (arM m k0)) (lenM m (arM m k0)) (w.heap.size+1+1+1) (w.heap.size+1+1) IB PB 0 m.vers.length m.vers.length hend l J Jx W hU hset hdrew hY hj hv
    case hassign =>
     intro l x W K hK
     simp only [List.setIfInBounds_toArray,List.set_cons_succ,List.set_cons_zero] at hK ⊢
     gi_wp2
     exact hK
    case hbody =>
     rintro l k W hk ⟨hr,hno⟩ hv
     try dsimp only at hr hno hv
     simp only [List.setIfInBounds_toArray,List.set_cons_succ,List.set_cons_zero]
     obtain ⟨e1,q⟩:=HRd.out _ W hr (by intro b hb;omega)
     obtain ⟨j,hj,hjl,_,q1,_⟩:=q k hk
     have e5:=(hr.cell (b:=w.heap.size) (k:=0) (by omega) (by omega)).trans c5
     have e6:=(hr.cell (b:=w.heap.size+1) (k:=0) (by omega) (by omega)).trans c6
     have g6:=(World.frozen?_of_block (w:=w5) (a:=⟨w.heap.size+1,0,none⟩) (hr.blk (w.heap.size+1) (by omega) (by omega))).trans f6
     have hFound:Hid ((upN m k (arM m k0) == (ks:Int))=true→underM m k0 ks=true):=fun h=>(HD.out true).2 (by rw [find_ups hk hno h];rfl)
     have HR:=Lib.hid hr
     have HNo:Hid (∀ b,(upN m k (arM m k0) == (ks:Int))=b→b=false→∀ j,j<k+1→(upN m j (arM m k0) == (ks:Int))=false):=fun b hb hf j hj=>by
       by_cases e:j=k
       · rw [e,hb,hf]
       · exact hno j (by omega)
     rw [hj] at hFound HNo
     have hj0:(0:Int)≤(j:Int):=by omega
     have hj1:(j:Int)<(m.vers.length:Int):=by omega
     rw [hj]
     cases hd:((j:Int) == (ks:Int)) with
     | true =>
      have hF:=hFound.out hd
      clear hr hno q c5 c6 f6 hFound HNo
      gi_wp2
      refine ⟨?_,?_,?_,hF⟩
      · exact KeepsB.set e6
      · exact (HR.out.weaken (fun _ h=>.inl h)).set (.inl (.inr rfl)) _
      · exact World.cell?_setCell_same _ _ _ e6
     | false =>
      have hN:=Lib.hid (HNo.out false hd rfl)
      clear hr hno q c5 c6 f6 hFound HNo
      gi_wp2
      exact ⟨KeepsB.refl _ _,(by rw [hj] at hv;simpa using hv),HR.out,hN.out⟩
    case hdone =>
     rintro D W hDl ⟨hr,hno⟩ hK
     try dsimp only at hr hno
     have hp:underM m k0 ks=false:=(HD.out false).2 (by rw [find_none hno];rfl)
     have HP:=Lib.hid hp
     have e6:=(hr.cell (b:=w.heap.size+1) (k:=0) (by omega) (by omega)).trans c6
     have g6:=(World.frozen?_of_block (w:=w5) (a:=⟨w.heap.size+1,0,none⟩) (hr.blk (w.heap.size+1) (by omega) (by omega))).trans f6
     have HM:Hid (Marked w5.heap.size [D] W):=marked_one hK hDl
     have HR:=Lib.hid hr
     clear hr hno hK c5 c6 f6 hp hv1 hend
     go_wp2_with fail
     have hM2:Marked w5.heap.size [D] (W.setCell ⟨w.heap.size+1,0,none⟩ (.bool false)):=HM.out.keep fun D' hD'=>Below.heap_setCell _ _ _ _ (by have:=HM.out.lo D' hD';simp only;omega)
     have e7:(Rfu.shut [D] (W.setCell ⟨w.heap.size+1,0,none⟩ (.bool false))).cell? ⟨w.heap.size+1,0,none⟩=some (.bool false) :=
       ((shut_below hM2.lo).cell (p:=⟨w.heap.size+1,0,none⟩) (by simp only;omega)).trans (World.cell?_setCell_same _ _ _ e6)
     refine post_ret (ds:=[D]) hM2 (v:=.bool false) (by simp [results,Tryz.results26,go_sem,e7]) ⟨by rw [HP.out],?_⟩
     exact hBW.out.trans ((((HR.out.below (B:=w.heap.size) (by have:=hBW.out.size;omega) (fun b hb=>by omega)).setCell (p:=⟨w.heap.size+1,0,none⟩) (by simp only;omega) _)).trans (shut_below fun D' hD'=>by have:=hM2.lo D' hD';omega))
    case hstop =>
     rintro D W hDl ⟨hr,hc,hp⟩ hK
     try dsimp only at hr hc hp
     have HP:=Lib.hid hp
     have HM:Hid (Marked w5.heap.size [D] W):=marked_one hK hDl
     have HR:=Lib.hid hr
     clear hr hK c5 c6 f6 hp hv1 hend
     go_wp2_with fail
     have e7:(Rfu.shut [D] W).cell? ⟨w.heap.size+1,0,none⟩=some (.bool true) :=
       ((shut_below HM.out.lo).cell (p:=⟨w.heap.size+1,0,none⟩) (by simp only;omega)).trans hc
     refine post_ret (ds:=[D]) HM.out (v:=.bool true) (by simp [results,Tryz.results26,go_sem,e7]) ⟨by rw [HP.out],?_⟩
     exact hBW.out.trans ((HR.out.below (B:=w.heap.size) (by have:=hBW.out.size;omega) (fun b hb=>by omega)).trans (shut_below fun D' hD'=>by have:=HM.out.lo D' hD';have:=hBW.out.size;omega))
end Go.Proofs
