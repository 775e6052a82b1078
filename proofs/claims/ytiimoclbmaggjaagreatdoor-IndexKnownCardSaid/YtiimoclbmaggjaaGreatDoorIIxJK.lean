/- Walks: Orthogonal. -/
import Derived.Test.YtiimoclbmaggjaaGreatDoorIIxGI
namespace Go.Proofs
open Go.RowKit Go.Lx Go.Md Go.Shelf Go.Rfu Go.Rgi Go.BigFrame
set_option linter.unusedVariables false
attribute [local go_sem] Oper.semAt_some
theorem four_allocs (w:World) (v0 v1 v2 v3:Value) (T0 T1 T2 T3:TypeId) :
   ((((w.alloc (.cells #[v0] T0)).alloc (.cells #[v1] T1)).alloc (.cells #[v2] T2)).alloc (.cells #[v3] T3)).cell? ⟨w.heap.size,0,none⟩=some v0∧((((w.alloc (.cells #[v0] T0)).alloc (.cells #[v1] T1)).alloc (.cells #[v2] T2)).alloc (.cells #[v3] T3)).cell? ⟨w.heap.size+1,0,none⟩=some v1 ∧
   ((((w.alloc (.cells #[v0] T0)).alloc (.cells #[v1] T1)).alloc (.cells #[v2] T2)).alloc (.cells #[v3] T3)).cell? ⟨w.heap.size+1+1,0,none⟩=some v2∧((((w.alloc (.cells #[v0] T0)).alloc (.cells #[v1] T1)).alloc (.cells #[v2] T2)).alloc (.cells #[v3] T3)).cell? ⟨w.heap.size+1+1+1,0,none⟩=some v3 ∧
   ((((w.alloc (.cells #[v0] T0)).alloc (.cells #[v1] T1)).alloc (.cells #[v2] T2)).alloc (.cells #[v3] T3)).frozen? ⟨w.heap.size+1+1+1,0,none⟩=false∧((((w.alloc (.cells #[v0] T0)).alloc (.cells #[v1] T1)).alloc (.cells #[v2] T2)).alloc (.cells #[v3] T3)).heap.size=w.heap.size+1+1+1+1:=by
 obtain ⟨h0,h1,h2,_,h3⟩:=three_allocs w v0 v1 v2 T0 T1 T2
 have hb:=below_al1 (((w.alloc (.cells #[v0] T0)).alloc (.cells #[v1] T1)).alloc (.cells #[v2] T2)) (.cells #[v3] T3)
 have hn:=World.alloc_heap_new (((w.alloc (.cells #[v0] T0)).alloc (.cells #[v1] T1)).alloc (.cells #[v2] T2)) (.cells #[v3] T3)
 rw [h3] at hn
 refine ⟨(hb.cell (p:=⟨w.heap.size,0,none⟩) (by rw [h3];simp only;omega)).trans h0,(hb.cell (p:=⟨w.heap.size+1,0,none⟩) (by rw [h3];simp only;omega)).trans h1,(hb.cell (p:=⟨w.heap.size+1+1,0,none⟩) (by rw [h3];simp only;omega)).trans h2,?_,?_,by simp⟩
 · unfold World.cell?;simp only [hn];rfl
 · unfold World.frozen?;simp only [hn];rfl
set_option maxRecDepth 100000 in
set_option maxHeartbeats 4000000 in
theorem orth_yes {B IB:Nat} {m:MdlD} {w:World} (h:IdxAt B m IB w) (a b:Nat) (h0:riM m=(0,0,0)) (ha:a<m.vers.length) (hb:b<m.vers.length) :
   Calls Tryz.prog 29 #[.pointer (some ⟨IB,0,none⟩),.int .i64 a,.int .i64 b] w fun e w'=>e=.returned (.bool (orthM m a b))∧Below w.heap.size w w':=by
 have hva:hasV m (a:Int)=true:=by simp [hasV];omega
 have hvb:hasV m (b:Int)=true:=by simp [hasV];omega
 have HTa:=Lib.hid (fun (wx:World) (g:Below w.heap.size w wx)=>there_any (h.grown g) (a:Int))
 have HTb:=Lib.hid (fun (wx:World) (g:Below w.heap.size w wx)=>there_any (h.grown g) (b:Int))
 have HBla:=Lib.hid (fun (wx:World) (g:Below w.heap.size w wx) (s:Int)=>below_any (h.grown g) a s h0 ha)
 have HBlb:=Lib.hid (fun (wx:World) (g:Below w.heap.size w wx) (s:Int)=>below_any (h.grown g) b s h0 hb)
 have HB3:Hid (Below w.heap.size w ((((w.alloc (.cells #[.pointer (some ⟨IB,0,none⟩)] 45)).alloc (.cells #[.int .i64 a] 3)).alloc (.cells #[.int .i64 b] 3)).alloc (.cells #[.bool false] 4))):=((((Below.refl _ w).alloc (Nat.le_refl _) _).alloc (by simp) _).alloc (by simp;omega) _).alloc (by simp;omega) _
 obtain ⟨c3,c4,c5,c6,f6,z3e⟩:=four_allocs w (.pointer (some ⟨IB,0,none⟩)) (.int .i64 a) (.int .i64 b) (.bool false) 45 3 3 4
 have Z3:=Lib.hid z3e
 clear z3e
 rw [hva] at HTa
 rw [hvb] at HTb
 obtain ⟨_,hl64,hpl⟩:=len_par h0 ha
 have HU:=Lib.hid (fun (wx:World) (g:Below w.heap.size w wx)=>upW_made (h.grown g) h0 hpl (by omega))
 have HRow:=Lib.hid (fun (wx:World) (g:Below w.heap.size w wx)=>(h.grown g).i0)
 have HD:Hid (∀ x,orthM m a b=x↔(match (upsM m (arM m a)).find? (fun p=>decide (0≤belowM m a p) && decide (0≤belowM m b p)) with | some p=>belowM m a p != belowM m b p | none=>false)=x):=fun x=>by unfold orthM;rw [hva,hvb];exact Iff.rfl
 clear hva hvb h hl64
 refine calls_of_marks Tryz.func29 rfl ?_
 simp only [Tryz.ntmps29,List.size_toArray,List.length_cons,List.length_nil,Nat.reduceAdd,Nat.reduceSub,Array.replicate_succ,Array.replicate_zero,List.push_toArray,List.append_toArray,List.nil_append,List.cons_append]
 go_wp2_with (first | ((with_reducible refine (HTa.out _ HB3.out).mono ?_);rintro e w' ⟨rfl,rfl⟩) | ((with_reducible refine (HTb.out _ HB3.out).mono ?_);rintro e w' ⟨rfl,rfl⟩))
 have HBW:=HB3
 generalize (((w.alloc (.cells #[.pointer (some ⟨IB,0,none⟩)] 45)).alloc (.cells #[.int .i64 a] 3)).alloc (.cells #[.int .i64 b] 3)).alloc (.cells #[.bool false] 4)=w3 at *
 obtain ⟨PB0,e1,q⟩:=HRow.out w3 HB3.out
 obtain ⟨c0,_⟩:=q a ha
 have hz3:=Nat.le_of_eq Z3.out.symm
 have hIBz:IB<w3.heap.size:=World.block_lt_of_cell? w3 _ e1
 have hPBz:PB0<w3.heap.size:=World.block_lt_of_cell? w3 _ c0
 have HS:Hid (∀ w',Below w3.heap.size w3 w'→w'.cell? ⟨w.heap.size,0,none⟩=some (.pointer (some ⟨IB,0,none⟩))∧w'.cell? ⟨w.heap.size+1,0,none⟩=some (.int .i64 a)∧w'.cell? ⟨IB,0,none⟩=some (.slice (some ⟨PB0,0,none⟩) m.vers.length m.vers.length)∧w'.cell? ⟨PB0,a * 7,none⟩=some (.int .i64 (arM m a))):=fun w' g =>
   ⟨(g.cell (p:=⟨w.heap.size,0,none⟩) (by simp only;omega)).trans c3,(g.cell (p:=⟨w.heap.size+1,0,none⟩) (by simp only;omega)).trans c4,(g.cell (p:=⟨IB,0,none⟩) hIBz).trans e1,(g.cell (p:=⟨PB0,a * 7,none⟩) hPBz).trans c0⟩
 have hB0:Below w3.heap.size w3 w3:=Below.refl _ _
 have hUp:Hid (∀ w',Below w3.heap.size w3 w'→Below w3.heap.size w3 ((w'.alloc (.cells #[.pointer (some ⟨IB,0,none⟩)] 45)).alloc (.cells #[.int .i64 (arM m a)] 3))):=fun w' h=>(h.alloc h.size _).alloc (by have:=h.size;simp;omega) _
 have ha0:(0:Int)≤(a:Int):=by omega
 have ha1:(a:Int)<(m.vers.length:Int):=by omega
 clear q
 go_region_held3 (fun w'=>w'.cell? ⟨w.heap.size,0,none⟩=some (.pointer (some ⟨IB,0,none⟩))∧w'.cell? ⟨w.heap.size+1,0,none⟩=some (.int .i64 a)∧w'.cell? ⟨IB,0,none⟩=some (.slice (some ⟨PB0,0,none⟩) m.vers.length m.vers.length)∧w'.cell? ⟨PB0,a * 7,none⟩=some (.int .i64 (arM m a)))
   (first
     | exact HS.out _ hB0
     | exact HS.out _ hB0.drew
     | exact HS.out _ (hUp.out _ hB0)
     | exact HS.out _ (hUp.out _ hB0.drew))
   (first
     | ((with_reducible refine (up_any (some ⟨IB,0,none⟩) (arM m a) _).mono ?_);rintro e w' ⟨rfl,rfl⟩))
 rename_i hHl
 clear hHl HS hUp
 go_wp2_with fail
 have hU:=(HU.out w3 HB3.out).rd (w':=((w3.alloc (.cells #[.pointer (some ⟨IB,0,none⟩)] 45)).alloc (.cells #[.int .i64 (arM m a)] 3)).drew) (Below.refl _ _).drew
 have z5e:(((w3.alloc (.cells #[.pointer (some ⟨IB,0,none⟩)] 45)).alloc (.cells #[.int .i64 (arM m a)] 3)).drew).heap.size=w3.heap.size+2:=by simp
 generalize ((w3.alloc (.cells #[.pointer (some ⟨IB,0,none⟩)] 45)).alloc (.cells #[.int .i64 (arM m a)] 3)).drew=w5 at *
 have z5:=Nat.le_of_eq z5e.symm
 clear z5e
 have c3:=(hU.bel.cell (p:=⟨w.heap.size,0,none⟩) (by simp only;omega)).trans c3
 have c4:=(hU.bel.cell (p:=⟨w.heap.size+1,0,none⟩) (by simp only;omega)).trans c4
 have c5:=(hU.bel.cell (p:=⟨w.heap.size+1+1,0,none⟩) (by simp only;omega)).trans c5
 have c6:=(hU.bel.cell (p:=⟨w.heap.size+1+1+1,0,none⟩) (by simp only;omega)).trans c6
 have f6:=(hU.bel.frozen (p:=⟨w.heap.size+1+1+1,0,none⟩) (by simp only;omega)).trans f6
 have hv1:=hU.hv
 have hend:=hU.end_
 obtain ⟨PB,hat⟩:=hU.at
 have HAt:=Lib.hid hat
 have HSt:=Lib.hid (ups_steps hU.h0 hU.vl hU.vd).2
 have hBW5:Hid (Below w.heap.size w w5):=HBW.out.trans (hU.bel.mono HBW.out.size)
 have hBW3:Hid (Below w3.heap.size w3 w5):=hU.bel
 clear hat hU HU HTa HTb HRow e1 c0 hIBz hPBz
 refine wp_range_to (q:=7) (gf:=170) (lb:=#[.pointer (some ⟨w3.heap.size+1,0,none⟩),.pointer (some ⟨w3.heap.size,0,none⟩)]) rfl (fun _ _=>?eg) (UpAt (fun k=>upN m k (arM m a)) (lenM m (arM m a)) (w3.heap.size+1) w3.heap.size IB PB 0 m.vers.length m.vers.length) (fun k=>upN m k (arM m a)) (lenM m (arM m a)) (w3.heap.size+1) (by omega) ?hit
   (fun k W=>Rd (fun b=>b=w3.heap.size+1) w5 W∧∀ j,j<k→(decide (0≤belowM m a (upN m j (arM m a))) && decide (0≤belowM m b (upN m j (arM m a))))=false) (fun W=>Rd (fun b=>b=w3.heap.size+1∨b=w.heap.size+1+1+1) w5 W∧W.cell? ⟨w.heap.size+1+1+1,0,none⟩=some (.bool (orthM m a b)))
   (fun k W h=>HAt.out _ W h.1 (by intro b hb;omega) rfl (by omega)) (fun k W W' h t=>⟨h.1.turn rfl t,h.2⟩) (fun W W' h t=>⟨h.1.turn (.inl rfl) t,(World.cell?_of_block (w:=W) (t.old (w.heap.size+1+1+1) (by omega) (by omega))).trans h.2⟩) ⟨Rd.refl _ _,fun j hj=>by omega⟩ hv1 ?hassign ?hbody ?hdone ?hstop
 case eg=>first | rfl | simp [go_sem]
 case hit=>exact fun l J Jx W hU hset hdrew hY hj hv=>up1_in (fun k=>upN m k (arM m a)) (lenM m (arM m a)) (w3.heap.size+1) w3.heap.size IB PB 0 m.vers.length m.vers.length hend l J Jx W hU hset hdrew hY hj hv
 case hassign =>
  intro l x W K hK
  simp only [List.setIfInBounds_toArray,List.set_cons_succ,List.set_cons_zero] at hK ⊢
  gi_wp2
  exact hK
 case hbody =>
  rintro l k W hk ⟨hr,hno⟩ hv
  try dsimp only at hr hno hv
  simp only [List.setIfInBounds_toArray,List.set_cons_succ,List.set_cons_zero]
  obtain ⟨j,hj,hjl,_⟩:=HSt.out k hk
  have e0:=(hr.cell (b:=w.heap.size) (k:=0) (by omega) (by omega)).trans c3
  have e4:=(hr.cell (b:=w.heap.size+1) (k:=0) (by omega) (by omega)).trans c4
  have e5:=(hr.cell (b:=w.heap.size+1+1) (k:=0) (by omega) (by omega)).trans c5
  have e6:=(hr.cell (b:=w.heap.size+1+1+1) (k:=0) (by omega) (by omega)).trans c6
  have g6:=(World.frozen?_of_block (w:=w5) (a:=⟨w.heap.size+1+1+1,0,none⟩) (hr.blk (w.heap.size+1+1+1) (by omega) (by omega))).trans f6
  have hFound:Hid ((decide (0≤belowM m a (upN m k (arM m a))) && decide (0≤belowM m b (upN m k (arM m a))))=true→orthM m a b=(belowM m a (upN m k (arM m a)) != belowM m b (upN m k (arM m a)))):=fun h=>(HD.out _).2 (by rw [find_ups hk hno h])
  have HR:=Lib.hid hr
  have hWz:=hr.size
  have HNo:Hid (∀ b',(decide (0≤belowM m a (upN m k (arM m a))) && decide (0≤belowM m b (upN m k (arM m a))))=b'→b'=false→∀ j,j<k+1→(decide (0≤belowM m a (upN m j (arM m a))) && decide (0≤belowM m b (upN m j (arM m a))))=false):=fun b' hb hf j hj=>by
    by_cases e:j=k
    · rw [e,hb,hf]
    · exact hno j (by omega)
  have HWb:Hid (Below w.heap.size w W):=hBW5.out.trans (hr.below (by omega) (fun b' hb=>by omega))
  have HCa:Hid (∀ w',Below W.heap.size W w'→_):=fun w' g=>HBla.out w' (HWb.out.trans (g.mono HWb.out.size)) (j:Int)
  have HCb:Hid (∀ w',Below W.heap.size W w'→_):=fun w' g=>HBlb.out w' (HWb.out.trans (g.mono HWb.out.size)) (j:Int)
  have HS:Hid (∀ w',Below W.heap.size W w'→w'.cell? ⟨w.heap.size,0,none⟩=some (.pointer (some ⟨IB,0,none⟩))∧w'.cell? ⟨w.heap.size+1,0,none⟩=some (.int .i64 a)∧w'.cell? ⟨w.heap.size+1+1,0,none⟩=some (.int .i64 b)):=fun w' g =>
    ⟨(g.cell (p:=⟨w.heap.size,0,none⟩) (by simp only;omega)).trans e0,(g.cell (p:=⟨w.heap.size+1,0,none⟩) (by simp only;omega)).trans e4,(g.cell (p:=⟨w.heap.size+1+1,0,none⟩) (by simp only;omega)).trans e5⟩
  have HE:Hid (∀ w',Below W.heap.size W w'→w'.cell? ⟨w.heap.size+1+1+1,0,none⟩=some (.bool false)∧w'.frozen? ⟨w.heap.size+1+1+1,0,none⟩=false):=fun w' g =>
    ⟨(g.cell (p:=⟨w.heap.size+1+1+1,0,none⟩) (by simp only;omega)).trans e6,(g.frozen (p:=⟨w.heap.size+1+1+1,0,none⟩) (by simp only;omega)).trans g6⟩
  rw [hj] at hFound HNo
  rw [hj]
  have hB0:Below W.heap.size W W:=Below.refl _ _
  obtain ⟨x,hx⟩:∃ x,belowM m (a:Int) (j:Int)=x:=⟨_,rfl⟩
  obtain ⟨y,hy⟩:∃ y,belowM m (b:Int) (j:Int)=y:=⟨_,rfl⟩
  rw [hx] at hFound HNo HCa
  rw [hy] at hFound HNo HCb
  clear hr hno c3 c4 c5 c6 f6 e0 e4 e5 e6 g6 hx hy hv1 hend HBla HBlb HSt HAt
  gi_wp2
  refine round_any (by kernel_rfl) (by kernel_rfl) (by rintro ⟨_,_,h⟩;exact h) ?_
  change wpAny _ _ _ _ _ _ _ (World.drew _)
  refine wpAny_of_heldS (S:=(fun w'=>w'.cell? ⟨w.heap.size,0,none⟩=some (.pointer (some ⟨IB,0,none⟩))∧w'.cell? ⟨w.heap.size+1,0,none⟩=some (.int .i64 a)∧w'.cell? ⟨w.heap.size+1+1,0,none⟩=some (.int .i64 b))) ?_ (fun hHeld=>?_)
  · (try dsimp only) <;> (first | exact HS.out _ (by assumption) | exact HS.out _ hB0.drew)
  refine tk 0 rfl ?_
  try simp only [Act.put,lyA,lyZ,lyS]
  refine tk 1 rfl ?_
  try simp only [Act.put,lyA,lyZ,lyS]
  refine tk 2 rfl ?_
  try simp only [Act.put,lyA,lyZ,lyS]
  refine tk 4 rfl ?_
  try simp only [Act.put,lyA,lyZ,lyS]
  refine tk 5 rfl ?_
  try simp only [Act.put,lyA,lyZ,lyS]
  refine tk 6 rfl ?_
  try simp only [Act.put,lyA,lyZ,lyS]
  refine rdy [3] ?_
  refine rdC rfl (fun K hK=>?_) ?_
  (go_simp;(with_reducible refine (HCa.out _ hB0.drew).mono ?_);rintro e w1 ⟨rfl,hb1⟩;have hB1:Below W.heap.size W w1:=(Below.refl _ W).drew.trans hb1;go_wp2_with fail)
  refine hK.out _ _ ?_ (fun hH1=>?_)
  · (try dsimp only) <;> (first | exact HS.out _ (by assumption) | exact HS.out _ hB0.drew)
  clear hK K hHeld
  try simp only [Act.put,lyA,lyZ,lyS]
  refine rdy [7] ?_
  refine rdC rfl (fun K hK=>?_) ?_
  (go_simp;(with_reducible refine (HCb.out _ hB1).mono ?_);rintro e w2 ⟨rfl,hb2⟩;have hB2:Below W.heap.size W w2:=hB1.trans (hb2.mono hB1.size);go_wp2_with fail)
  refine hK.out _ _ ?_ (fun hH2=>?_)
  · (try dsimp only) <;> (first | exact HS.out _ (by assumption) | exact HS.out _ hB0.drew)
  clear hK K hH1
  try simp only [Act.put,lyA,lyZ,lyS]
  refine tk 8 rfl ?_
  try simp only [Act.put,lyA,lyZ,lyS]
  refine tk 9 rfl ?_
  try simp only [Act.put,lyA,lyZ,lyS]
  refine wpAnyH_done (by kernel_rfl) ?_ _
  rotate_left
  exact AllReadyH.nil
  exact AllReadyH.nil
  have e6:=(HE.out _ hB2).1
  have g6:=(HE.out _ hB2).2
  clear hH2 HS HCa HCb HE
  by_cases hx0:0≤x
  · have dx:decide (0≤x)=true:=by simpa using hx0
    by_cases hy0:0≤y
    · have dy:decide (0≤y)=true:=by simpa using hy0
      have hF:=Lib.hid (hFound.out (by rw [dx,dy];rfl))
      clear hFound HNo
      gi_wp2
      refine ⟨?_,?_,?_⟩
      · exact (KeepsB.of_below hB2).trans (KeepsB.set e6)
      · exact ((HR.out.bel (hB2.mono hWz)).weaken (fun _ h=>.inl h)).set (.inl (.inr rfl)) _
      · rw [hF.out];exact World.cell?_setCell_same _ _ _ e6
    · have dy:decide (0≤y)=false:=by simpa using hy0
      have hN:=Lib.hid (HNo.out false (by rw [dx,dy];rfl) rfl)
      clear hFound HNo
      gi_wp2
      exact ⟨KeepsB.of_below hB2,(hB2.cell (p:=⟨w3.heap.size+1,0,none⟩) (by simp only;omega)).trans (by rw [hj] at hv;exact hv),HR.out.bel (hB2.mono hWz),fun j hj h1=>by have:=hN.out j hj;simp only [Bool.and_eq_false_iff,decide_eq_false_iff_not] at this;omega⟩
  · have dx:decide (0≤x)=false:=by simpa using hx0
    have hN:=Lib.hid (HNo.out false (by rw [dx];rfl) rfl)
    clear hFound HNo
    gi_wp2
    exact ⟨KeepsB.of_below hB2,(hB2.cell (p:=⟨w3.heap.size+1,0,none⟩) (by simp only;omega)).trans (by rw [hj] at hv;exact hv),HR.out.bel (hB2.mono hWz),fun j hj h1=>by have:=hN.out j hj;simp only [Bool.and_eq_false_iff,decide_eq_false_iff_not] at this;omega⟩
 case hdone =>
  rintro D W hDl ⟨hr,hno⟩ hK
  try dsimp only at hr hno
  have hp:orthM m a b=false:=(HD.out _).2 (by rw [find_none hno])
  have HP:=Lib.hid hp
  have e6:=(hr.cell (b:=w.heap.size+1+1+1) (k:=0) (by omega) (by omega)).trans c6
  have g6:=(World.frozen?_of_block (w:=w5) (a:=⟨w.heap.size+1+1+1,0,none⟩) (hr.blk (w.heap.size+1+1+1) (by omega) (by omega))).trans f6
  have HM:Hid (Marked w5.heap.size [D] W):=marked_one hK hDl
  have HR:=Lib.hid hr
  clear hr hno hK c3 c4 c5 c6 f6 hp hv1 hend
  go_wp2_with fail
  have hM2:Marked w5.heap.size [D] (W.setCell ⟨w.heap.size+1+1+1,0,none⟩ (.bool false)):=HM.out.keep fun D' hD'=>Below.heap_setCell _ _ _ _ (by have:=HM.out.lo D' hD';simp only;omega)
  have e7:(Rfu.shut [D] (W.setCell ⟨w.heap.size+1+1+1,0,none⟩ (.bool false))).cell? ⟨w.heap.size+1+1+1,0,none⟩=some (.bool false) :=
    ((shut_below hM2.lo).cell (p:=⟨w.heap.size+1+1+1,0,none⟩) (by simp only;omega)).trans (World.cell?_setCell_same _ _ _ e6)
  refine post_ret (ds:=[D]) hM2 (v:=.bool false) (by simp [results,Tryz.results29,go_sem,e7]) ⟨by rw [HP.out],?_⟩
  exact hBW5.out.trans ((((HR.out.below (B:=w.heap.size) (by have:=hBW5.out.size;omega) (fun b hb=>by omega)).setCell (p:=⟨w.heap.size+1+1+1,0,none⟩) (by simp only;omega) _)).trans (shut_below fun D' hD'=>by have:=hM2.lo D' hD';omega))
 case hstop =>
  rintro D W hDl ⟨hr,hc⟩ hK
  try dsimp only at hr hc
  have HM:Hid (Marked w5.heap.size [D] W):=marked_one hK hDl
  have HR:=Lib.hid hr
  clear hr hK c3 c4 c5 c6 f6 hv1 hend
  go_wp2_with fail
  have e7:(Rfu.shut [D] W).cell? ⟨w.heap.size+1+1+1,0,none⟩=some (.bool (orthM m a b)) :=
    ((shut_below HM.out.lo).cell (p:=⟨w.heap.size+1+1+1,0,none⟩) (by simp only;omega)).trans hc
  refine post_ret (ds:=[D]) HM.out (v:=.bool (orthM m a b)) (by simp [results,Tryz.results29,go_sem,e7]) ⟨rfl,?_⟩
  exact hBW5.out.trans ((HR.out.below (B:=w.heap.size) (by have:=hBW5.out.size;omega) (fun b hb=>by omega)).trans (shut_below fun D' hD'=>by have:=HM.out.lo D' hD';have:=hBW5.out.size;omega))
set_option maxHeartbeats 1000000 in
theorem orth_no {B IB:Nat} {m:MdlD} {w:World} (h:IdxAt B m IB w) (a b:Int) (hab:hasV m a=false∨(hasV m a=true∧hasV m b=false)) :
   Calls Tryz.prog 29 #[.pointer (some ⟨IB,0,none⟩),.int .i64 a,.int .i64 b] w fun e w'=>e=.returned (.bool (orthM m a b))∧Below w.heap.size w w':=by
 have HTa:=Lib.hid (fun (wx:World) (g:Below w.heap.size w wx)=>there_any (h.grown g) a)
 have HTb:=Lib.hid (fun (wx:World) (g:Below w.heap.size w wx)=>there_any (h.grown g) b)
 have HB3:Hid (Below w.heap.size w ((((w.alloc (.cells #[.pointer (some ⟨IB,0,none⟩)] 45)).alloc (.cells #[.int .i64 a] 3)).alloc (.cells #[.int .i64 b] 3)).alloc (.cells #[.bool false] 4))):=((((Below.refl _ w).alloc (Nat.le_refl _) _).alloc (by simp) _).alloc (by simp;omega) _).alloc (by simp;omega) _
 obtain ⟨c3,c4,c5,c6,f6,z3e⟩:=four_allocs w (.pointer (some ⟨IB,0,none⟩)) (.int .i64 a) (.int .i64 b) (.bool false) 45 3 3 4
 have hp:orthM m a b=false:=by
   unfold orthM
   rcases hab with h1 | ⟨h1,h2⟩
   · rw [h1];rfl
   · rw [h1,h2];rfl
 rw [hp]
 clear hp z3e h
 rcases hab with h1 | ⟨h1,h2⟩
 · rw [h1] at HTa
   clear h1 HTb
   refine calls_of_marks Tryz.func29 rfl ?_
   simp only [Tryz.ntmps29,List.size_toArray,List.length_cons,List.length_nil,Nat.reduceAdd,Nat.reduceSub,Array.replicate_succ,Array.replicate_zero,List.push_toArray,List.append_toArray,List.nil_append,List.cons_append]
   go_wp2_with ((with_reducible refine (HTa.out _ HB3.out).mono ?_);rintro e w' ⟨rfl,rfl⟩)
   refine post_ret (ds:=[]) (n0:=0) (Marked.nil _ _) (v:=.bool false) ?_ ⟨rfl,HB3.out⟩
   simp [results,Tryz.results29,go_sem,Rfu.shut]
 · rw [h1] at HTa
   rw [h2] at HTb
   clear h1 h2
   refine calls_of_marks Tryz.func29 rfl ?_
   simp only [Tryz.ntmps29,List.size_toArray,List.length_cons,List.length_nil,Nat.reduceAdd,Nat.reduceSub,Array.replicate_succ,Array.replicate_zero,List.push_toArray,List.append_toArray,List.nil_append,List.cons_append]
   go_wp2_with (first | ((with_reducible refine (HTa.out _ HB3.out).mono ?_);rintro e w' ⟨rfl,rfl⟩) | ((with_reducible refine (HTb.out _ HB3.out).mono ?_);rintro e w' ⟨rfl,rfl⟩))
   refine post_ret (ds:=[]) (n0:=0) (Marked.nil _ _) (v:=.bool false) ?_ ⟨rfl,HB3.out⟩
   simp [results,Tryz.results29,go_sem,Rfu.shut]
theorem orth_any {B IB:Nat} {m:MdlD} {w:World} (h:IdxAt B m IB w) (a b:Int) (h0:riM m=(0,0,0)) :
   Calls Tryz.prog 29 #[.pointer (some ⟨IB,0,none⟩),.int .i64 a,.int .i64 b] w fun e w'=>e=.returned (.bool (orthM m a b))∧Below w.heap.size w w':=by
 cases ha:hasV m a with
 | false=>exact orth_no h a b (.inl ha)
 | true =>
  cases hb:hasV m b with
  | false=>exact orth_no h a b (.inr ⟨ha,hb⟩)
  | true =>
   obtain ⟨i,rfl,hi⟩:=hasV_yes ha
   obtain ⟨j,rfl,hj⟩:=hasV_yes hb
   exact orth_yes h i j h0 hi hj
attribute [local go_sem] Oper.semAt_some
theorem common1_any {B IB:Nat} {m:MdlD} {w:World} (h:IdxAt B m IB w) (h0:riM m=(0,0,0)) (v r:Int) (B4 B11:Nat) (h4:w.cell? ⟨B4,0,none⟩=some (.pointer (some ⟨IB,0,none⟩))) (h11:w.cell? ⟨B11,0,none⟩=some (.int .i64 r)) :
   Calls Tryz.prog 97 #[.int .i64 v,.pointer (some ⟨B4,0,none⟩),.pointer (some ⟨B11,0,none⟩)] w fun e w'=>e=.returned (.bool (!inM m v r))∧Below w.heap.size w w':=by
 have HC:=Lib.hid (in_any h v r h0)
 clear h h0
 go_enter Tryz.func97,Tryz.ntmps97
 go_wp2_with ((with_reducible refine (HC.out).mono ?_);rintro e w' ⟨rfl,hb⟩)
 go_ret
 exact ⟨rfl,hb⟩
def IdxC (m:MdlD) (r:Int) (all:List Int) (w:World) (e:Ending) (w':World):Prop:=∃ i:Int,e=.returned (.int .i64 i)∧decide (0≤i)=all.any (fun v=>!inM m v r)∧Below w.heap.size w w'
theorem indexC_any {B IB N:Nat} {m:MdlD} {w:World} (h:IdxAt B m IB w) (h0:riM m=(0,0,0)) (all:List Int) (av:Value) (r:Int) (B4 B11:Nat) (h4:w.cell? ⟨B4,0,none⟩=some (.pointer (some ⟨IB,0,none⟩))) (h11:w.cell? ⟨B11,0,none⟩=some (.int .i64 r))
   (ho:w.ownsRow N 3 1 av all.length (nums all)) (hl:all.length≤100000) (hl1:1≤all.length) :
   Calls Tryz.prog 171 #[av,.func (.func 97) #[] #[.pointer (some ⟨B4,0,none⟩),.pointer (some ⟨B11,0,none⟩)]] w (IdxC m r all w):=by
 obtain ⟨g,c,rfl⟩:∃ g c,av=.slice (some ⟨g,0,none⟩) all.length c:=by
   rcases ho.2 with ⟨_,e2⟩ | ⟨g,c,_,e,_⟩
   · omega
   · exact ⟨_,_,e⟩
 have hcap:all.length≤c:=by
   rcases ho.2 with ⟨e,_⟩ | ⟨g',c',_,e,_,_,hc,_⟩
   · cases e
   · simp only [Value.slice.injEq] at e;omega
 have hg4:=World.block_lt_of_cell? w _ h4
 have hg11:=World.block_lt_of_cell? w _ h11
 have hgg:=(ho.lt g rfl).2
 have HC:Hid (∀ wx,Below w.heap.size w wx→∀ v,_):=fun wx g' v=>common1_any (h.grown g') h0 v r B4 B11 ((g'.cell (p:=⟨B4,0,none⟩) hg4).trans h4) ((g'.cell (p:=⟨B11,0,none⟩) hg11).trans h11)
 have HE:Hid (∀ wx,Below w.heap.size w wx→∀ k (hk:k<all.length),wx.cell? ⟨g,k,none⟩=some (.int .i64 all[k])):=fun wx g' k hk =>
   (g'.cell (p:=⟨g,k,none⟩) hgg).trans ((ho.cellAt k (by omega)).trans (by simp [nums,hk]))
 clear ho h h0 h4 h11 hg4 hg11 hgg
 obtain ⟨n,hn⟩:∃ n,all.length=n:=⟨_,rfl⟩
 have HN:=Lib.hid hn
 rw [hn] at hcap hl hl1 ⊢
 clear hn
 go_enter Tryz.func171,Tryz.ntmps171
 go_wp2
 go_loopw [8] (fun i wr=>∃ k:Nat,k≤n∧i=.int .i64 k∧Below w.heap.size w wr∧∀ j (hj:j<all.length),j<k→(!inM m all[j] r)=false) (fun i _=>n - (intOf i).toNat)
 case atStart=>exact ⟨0,by omega,rfl,Below.refl _ _,fun j _ hj=>by omega⟩
 case round =>
  obtain ⟨wo,rfl⟩:∃ wo:World,wo=wr:=⟨_,rfl⟩
  obtain ⟨k,hk,rfl,hb,hno⟩:=hrel
  have HB:=Lib.hid hb
  have HNo:=Lib.hid hno
  clear hb hno
  by_cases hlt:k<n
  · have hk':k<all.length:=by rw [HN.out];exact hlt
    have e1:=HE.out wo HB.out k hk'
    have hI:(k:Int)<(n:Int):=by omega
    have hI0:(0:Int)≤(k:Int):=by omega
    have HCk:=Lib.hid (HC.out wo HB.out all[k])
    have HF:Hid (∀ b,(!inM m all[k] r)=b→(b=false→∀ j (hj:j<all.length),j<k+1→(!inM m all[j] r)=false)∧(b=true→all.any (fun v=>!inM m v r)=true)):=fun b hb=>⟨fun hf j hj hjk=>by
        by_cases e:j=k
        · subst e;rw [hb,hf]
        · exact HNo.out j hj (by omega),fun ht=>List.any_eq_true.2 ⟨all[k],List.getElem_mem hk',by rw [hb,ht]⟩⟩
    obtain ⟨x,hx⟩:∃ x,all[k]=x:=⟨_,rfl⟩
    rw [hx] at e1 HCk HF
    clear hx
    cases hd:(!inM m x r) with
    | true =>
     have hT:=Lib.hid ((HF.out true hd).2 rfl)
     rw [hd] at HCk
     clear HF hd HC HE HNo
     go_wp2_with ((with_reducible refine (HCk.out).mono ?_);rintro e w2 ⟨rfl,hb2⟩)
     go_ret
     exact ⟨k,rfl,by rw [hT.out];simp,HB.out.trans (hb2.mono HB.out.size)⟩
    | false =>
     have hF:=Lib.hid ((HF.out false hd).1 rfl)
     rw [hd] at HCk
     clear HF hd HC HE HNo
     go_wp2_with ((with_reducible refine (HCk.out).mono ?_);rintro e w2 ⟨rfl,hb2⟩)
     go_roundw
     case rel=>exact ⟨k+1,by omega,by go_num,HB.out.trans (hb2.mono HB.out.size),hF.out⟩
     case measure=>simp [intOf] <;> omega
  · have hA:Hid (all.any (fun v=>!inM m v r)=false):=Lib.hid (by
      rw [List.any_eq_false]
      intro x hx
      obtain ⟨j,hj,rfl⟩:=List.getElem_of_mem hx
      rw [HNo.out j hj (by have:=HN.out;omega)];simp)
    clear HC HE HNo
    go_wp2
    go_ret
    exact ⟨-1,rfl,by rw [hA.out];rfl,HB.out⟩
theorem any_not (f:Int→Bool):∀ l:List Int,(l.any fun v=>!f v)=!(l.all f)
 | []=>rfl
 | x :: t=>by simp only [List.any_cons,List.all_cons,any_not f t,Bool.not_and]
def AnyC (m:MdlD) (r:Int) (all:List Int) (w:World) (e:Ending) (w':World):Prop:=e=.returned (.bool (!(all.all fun v=>inM m v r)))∧Below w.heap.size w w'
theorem containsC_any {B IB N:Nat} {m:MdlD} {w:World} (h:IdxAt B m IB w) (h0:riM m=(0,0,0)) (all:List Int) (av:Value) (r:Int) (B4 B11:Nat) (h4:w.cell? ⟨B4,0,none⟩=some (.pointer (some ⟨IB,0,none⟩))) (h11:w.cell? ⟨B11,0,none⟩=some (.int .i64 r))
   (ho:w.ownsRow N 3 1 av all.length (nums all)) (hl:all.length≤100000) (hl1:1≤all.length) :
   Calls Tryz.prog 96 #[av,.func (.func 97) #[] #[.pointer (some ⟨B4,0,none⟩),.pointer (some ⟨B11,0,none⟩)]] w (AnyC m r all w):=by
 have HC:=Lib.hid (indexC_any h h0 all av r B4 B11 h4 h11 ho hl hl1)
 clear h h0 ho h4 h11
 go_enter Tryz.func96,Tryz.ntmps96
 go_wp2_with ((with_reducible refine (HC.out).mono ?_);rintro e w' ⟨i,rfl,hi,hb⟩)
 go_ret
 exact ⟨by rw [← any_not,← hi];rfl,hb⟩
theorem two_allocs_c (w:World) (v0 v1:Value) (T0 T1:TypeId):((w.alloc (.cells #[v0] T0)).alloc (.cells #[v1] T1)).cell? ⟨w.heap.size,0,none⟩=some v0∧((w.alloc (.cells #[v0] T0)).alloc (.cells #[v1] T1)).cell? ⟨w.heap.size+1,0,none⟩=some v1∧((w.alloc (.cells #[v0] T0)).alloc (.cells #[v1] T1)).frozen? ⟨w.heap.size+1,0,none⟩=false∧((w.alloc (.cells #[v0] T0)).alloc (.cells #[v1] T1)).heap.size=w.heap.size+1+1:=by
 have h1:=World.alloc_heap_new (w.alloc (.cells #[v0] T0)) (.cells #[v1] T1)
 rw [World.size_alloc] at h1
 refine ⟨by simp,?_,?_,by simp⟩
 · unfold World.cell?;simp only [h1];rfl
 · unfold World.frozen?;simp only [h1];rfl
set_option maxRecDepth 100000 in
set_option maxHeartbeats 4000000 in
theorem common_no {B IB:Nat} {m:MdlD} {w:World} (h:IdxAt B m IB w) (a b:Int) (mv:Value) (all:List Int) (ha:hasV m a=false) :
   Calls Tryz.prog 28 #[.pointer (some ⟨IB,0,none⟩),.int .i64 a,.int .i64 b,mv] w fun e w'=>e=.returned (.int .i64 (commonM m a all))∧Below w.heap.size w w':=by
 have HTa:=Lib.hid (fun (wx:World) (g:Below w.heap.size w wx)=>there_any (h.grown g) a)
 have HB3:Hid (Below w.heap.size w ((w.alloc (.cells #[.pointer (some ⟨IB,0,none⟩)] 45)).alloc (.cells #[.int .i64 0] 3))):=below_al2 w _ _
 have HB4:Hid (Below w.heap.size w ((w.alloc (.cells #[.pointer (some ⟨IB,0,none⟩)] 45)).alloc (.cells #[.int .i64 (-1)] 3))):=below_al2 w _ _
 obtain ⟨c4,c8,f8,z3e⟩:=two_allocs_c w (.pointer (some ⟨IB,0,none⟩)) (.int .i64 0) 45 3
 obtain ⟨_,c9,_,_⟩:=two_allocs_c w (.pointer (some ⟨IB,0,none⟩)) (.int .i64 (-1)) 45 3
 have hp:commonM m a all=-1:=by unfold commonM;rw [ha];rfl
 rw [hp]
 rw [ha] at HTa
 clear hp z3e h ha
 refine calls_of_marks Tryz.func28 rfl ?_
 simp only [Tryz.ntmps28,List.size_toArray,List.length_cons,List.length_nil,Nat.reduceAdd,Nat.reduceSub,Array.replicate_succ,Array.replicate_zero,List.push_toArray,List.append_toArray,List.nil_append,List.cons_append]
 go_wp2_with ((with_reducible refine (HTa.out _ HB3.out).mono ?_);rintro e w' ⟨rfl,rfl⟩)
 refine post_ret (ds:=[]) (n0:=0) (Marked.nil _ _) (v:=.int .i64 (-1)) ?_ ⟨rfl,HB4.out⟩
 simp [results,Tryz.results28,go_sem,Rfu.shut]
def RowIn (w:World) (v:Value) (l:List Int):Prop:=(∃ a c,v=.slice a 0 c∧l=[])∨∃ b off c,v=.slice (some ⟨b,off,none⟩) l.length c∧l.length≤c∧b<w.heap.size∧∀ j u,(nums l)[j]? = some u→w.cell? ((⟨b,off,none⟩:Addr).add j)=some u
structure CmSt (IB:Nat) (b:Int) (l:List Int) (w W:World) (B9:Nat):Prop where
 bel:Below w.heap.size w W
 c4:W.cell? ⟨w.heap.size,0,none⟩=some (.pointer (some ⟨IB,0,none⟩))
 c8:W.cell? ⟨w.heap.size+1,0,none⟩=some (.int .i64 0)
 f8:W.frozen? ⟨w.heap.size+1,0,none⟩=false
 lo:w.heap.size+1+1≤B9
 row:∃ v9,W.cell? ⟨B9,0,none⟩=some v9∧W.ownsRow (w.heap.size+1+1) 3 1 v9 (b :: l).length (nums (b :: l))
theorem ownsRow_keep {N T n:Nat} {w w':World} {v:Value} {xs:List Value} (h:w.ownsRow N T 1 v n xs) (g:Below w.heap.size w w'):w'.ownsRow N T 1 v n xs:=by
 refine ⟨h.1,?_⟩
 rcases h.2 with h2 | ⟨b,cap,cur,e,hb,hg,r⟩
 · exact .inl h2
 · exact .inr ⟨b,cap,cur,e,hb,(g.block b (Array.getElem?_eq_some_iff.1 hg).1).trans hg,r⟩
def CutC (IB:Nat) (b:Int) (l:List Int) (w:World) (s9:Value) (W:World):Prop:=∃ B9,s9=.pointer (some ⟨B9,0,none⟩)∧CmSt IB b l w W B9
theorem ownsRow_pos {N T n:Nat} {w:World} {v:Value} {xs:List Value} (h:w.ownsRow N T 1 v n xs) (hn:0<n):∃ g c,v=.slice (some ⟨g,0,none⟩) n c:=by
 rcases h.2 with ⟨_,e⟩ | ⟨g,c,_,e,_⟩
 · omega
 · exact ⟨_,_,e⟩
theorem CmSt.made {IB:Nat} {b:Int} {l:List Int} {w w3 w1:World} {o:Obj} {v9:Value} (hB:Below w.heap.size w w3) (c4:w3.cell? ⟨w.heap.size,0,none⟩=some (.pointer (some ⟨IB,0,none⟩))) (c8:w3.cell? ⟨w.heap.size+1,0,none⟩=some (.int .i64 0)) (f8:w3.frozen? ⟨w.heap.size+1,0,none⟩=false) (hz:w3.heap.size=w.heap.size+1+1)
   (hg:(w3.alloc o).grownBy w1 (some w3.heap.size)) (ho:w1.ownsRow (w.heap.size+1+1) 3 1 v9 (b :: l).length (nums (b :: l))):CmSt IB b l w (w1.alloc (.cells #[v9] 31)) w1.heap.size:=by
 have h1:Below w3.heap.size w3 w1:=((Below.refl _ w3).alloc (Nat.le_refl _) o).grown hg (by simp) (fun k e=>by injection e with e;omega)
 have h2:Below w3.heap.size w3 (w1.alloc (.cells #[v9] 31)):=h1.alloc h1.size _
 exact ⟨hB.trans (h2.mono hB.size),(h2.cell (p:=⟨w.heap.size,0,none⟩) (by simp only;omega)).trans c4,(h2.cell (p:=⟨w.heap.size+1,0,none⟩) (by simp only;omega)).trans c8,(h2.frozen (p:=⟨w.heap.size+1,0,none⟩) (by simp only;omega)).trans f8,by have:=h1.size;omega,v9,by simp,ho.alloc _⟩
set_option maxRecDepth 100000 in
set_option maxHeartbeats 4000000 in
theorem common_yes {B IB:Nat} {m:MdlD} {w:World} (h:IdxAt B m IB w) (a:Nat) (b:Int) (mv:Value) (l:List Int) (hl:l.length≤90000) (hr:RowIn w mv l) (h0:riM m=(0,0,0)) (ha:a<m.vers.length) :
   Calls Tryz.prog 28 #[.pointer (some ⟨IB,0,none⟩),.int .i64 a,.int .i64 b,mv] w fun e w'=>e=.returned (.int .i64 (commonM m a (b :: l)))∧Below w.heap.size w w':=by
 have hva:hasV m (a:Int)=true:=by simp [hasV];omega
 have HTa:=Lib.hid (fun (wx:World) (g:Below w.heap.size w wx)=>there_any (h.grown g) (a:Int))
 have HI:=Lib.hid (fun (wx:World) (g:Below w.heap.size w wx)=>h.grown g)
 have HB3:Hid (Below w.heap.size w ((w.alloc (.cells #[.pointer (some ⟨IB,0,none⟩)] 45)).alloc (.cells #[.int .i64 0] 3))):=below_al2 w _ _
 obtain ⟨c4,c8,f8,z3e⟩:=two_allocs_c w (.pointer (some ⟨IB,0,none⟩)) (.int .i64 0) 45 3
 have Z3:=Lib.hid z3e
 clear z3e
 rw [hva] at HTa
 have HD:Hid (∀ x,commonM m a (b :: l)=x↔(match (upsM m a).find? (fun p=>(b :: l).all fun v=>inM m v (rgM m p)) with | some p=>rgM m p | none=>-1)=x):=fun x=>by unfold commonM;rw [hva];exact Iff.rfl
 obtain ⟨iI,hiI,zI0,zI1,zI2⟩:=info_parts info_Num
 have HRow:=Lib.hid hr
 clear hva h hr
 refine calls_of_marks Tryz.func28 rfl ?_
 simp only [Tryz.ntmps28,List.size_toArray,List.length_cons,List.length_nil,Nat.reduceAdd,Nat.reduceSub,Array.replicate_succ,Array.replicate_zero,List.push_toArray,List.append_toArray,List.nil_append,List.cons_append]
 let HText:Prop:=bodyPost Tryz.prog Tryz.f28 (fun _ _=>True) .ret { tmps:=#[],defers:=[] } w
 go_upto_region 3 with ((with_reducible refine (HTa.out _ HB3.out).mono ?_);rintro e w' ⟨rfl,rfl⟩)
 have hM:=fun (w1:World) (o:Obj) (v9:Value) hg ho=>CmSt.made (IB:=IB) (b:=b) (l:=l) (w1:=w1) (o:=o) (v9:=v9) HB3.out c4 c8 f8 Z3.out hg ho
 have HM:=Lib.hid hM
 clear hM c4 c8 f8
 generalize (w.alloc (.cells #[.pointer (some ⟨IB,0,none⟩)] 45)).alloc (.cells #[.int .i64 0] 3)=w3 at *
 go_cut [9] (fun s9 W=>CutC IB b l w s9 W)
 case first =>
  have hz3:=Nat.le_of_eq Z3.out.symm
  have hO1:=World.ownsRow_lit (base:=w.heap.size+1+1) (e:=3) (size:=1) w3 #[.int .i64 b] 1 hz3 (by unfold maxLen;omega) (by simp)
  have HO:=Lib.hid hO1
  clear hO1
  have hrow:=HRow.out
  clear HRow HTa HI HD Z3
  have hsrc:(∃ mc,mv=.slice none 0 mc∧l=[])∨∃ ad mc,mv=.slice (some ad) l.length mc∧Hid (∀ j u,(nums l)[j]? = some u→(w3.alloc (.cells #[.int .i64 b] 3)).cell? (ad.add j)=some u):=by
    rcases hrow with ⟨am,mc,rfl,rfl⟩ | ⟨bm,om,mc,rfl,_,hab,hcs⟩
    · cases am with
      | none=>exact .inl ⟨mc,rfl,rfl⟩
      | some ad=>exact .inr ⟨ad,mc,rfl,Lib.hid (fun j u hj=>by simp [nums] at hj)⟩
    · exact .inr ⟨_,mc,rfl,fun j u hj=>Lib.cell?_alloc_some _ ((HB3.out.cell (p:=(⟨bm,om,none⟩:Addr).add j) (by have:((⟨bm,om,none⟩:Addr).add j).block=bm:=by { unfold Addr.add;split <;> rfl };omega)).trans (hcs j u hj))⟩
  rcases hsrc with ⟨mc,rfl,rfl⟩ | ⟨ad,mc,rfl,HC⟩
  · go_wp2_with fail
    go_meet
    have h9:=HM.out _ _ _ ⟨rfl,rfl,rfl,Nat.le_refl _,fun _ _ _=>rfl⟩ HO.out
    rw [World.size_alloc] at h9
    exact ⟨_,rfl,h9⟩
  · clear hrow
    have H1:Hid (∀ u ∈ nums l,u.oneCell'=true):=Lib.hid (by intro u hu;simp only [nums,List.mem_map] at hu;obtain ⟨x,_,rfl⟩:=hu;rfl)
    go_wp2_with (at_builtin;refine wpList_append_own _ rfl _ _ 31 rfl (w.heap.size+1+1) 3 iI _ 1 8 Tryz.underlying31 hiI zI0 zI1 zI2 rfl (by decide) _ 1 _ rfl HO.out ad l.length mc (nums l) rfl (by simp) HC.out H1.out ?qc4 ?qc5 ?qc6 ?_)
    case qc4=>unfold maxLen;omega
    case qc5=>omega
    case qc6=>first | omega | (simp;omega)
    intro v' w1 hown hgrow hnil
    obtain ⟨g,c,rfl⟩:=ownsRow_pos hown (by omega)
    have hown2:w1.ownsRow (w.heap.size+1+1) 3 1 (.slice (some ⟨g,0,none⟩) (1+l.length) c) (b :: l).length (nums (b :: l)):=by
      rw [show (b :: l).length=1+l.length by simp;omega];exact hown
    have HO2:=Lib.hid hown2
    have HG2:=Lib.hid hgrow
    clear hown hown2 hgrow hnil
    go_wp2_with fail
    go_meet
    exact ⟨_,rfl,HM.out _ _ _ HG2.out HO2.out⟩
 case rest =>
  obtain ⟨w4,hw4,hcut⟩:∃ w4:World,w4=_∧CutC IB b l w _ w4:=⟨_,rfl,hcut⟩
  subst hw4
  obtain ⟨B9,rfl,hC⟩:=hcut
  have hl2:=len_self h0 ha
  have hU:=upW_made (HI.out w4 hC.bel) h0 (v:=(a:Int)) (by omega) hl2.2
  have HU0:=Lib.hid hU
  have c4:=hC.c4
  have HC0:=Lib.hid hC
  have HI4:=Lib.hid (HI.out w4 hC.bel)
  clear hU hC hl2 HI HTa HM HRow HB3
  go_wp2_with ((with_reducible refine (up_any _ _ _).mono ?_);rintro e w' ⟨rfl,rfl⟩)
  have hU:=HU0.out
  obtain ⟨_,_,_,z5e⟩:=up_alloc w4 (some ⟨IB,0,none⟩) (a:Int)
  have hb45:Below w4.heap.size w4 ((w4.alloc (.cells #[.pointer (some ⟨IB,0,none⟩)] 45)).alloc (.cells #[.int .i64 (a:Int)] 3)):=below_al2 w4 _ _
  generalize (w4.alloc (.cells #[.pointer (some ⟨IB,0,none⟩)] 45)).alloc (.cells #[.int .i64 (a:Int)] 3)=w5 at *
  have z5:=Nat.le_of_eq z5e.symm
  have hv1:=hU.hv
  have hend:=hU.end_
  obtain ⟨PB,hat⟩:=hU.at
  obtain ⟨PB2,hrd⟩:=hU.reads
  have HAt:=Lib.hid hat
  have HRd:=Lib.hid hrd
  have HB45:=Lib.hid hb45
  obtain ⟨v9,hc9,ho9⟩:=HC0.out.row
  have hB9:=World.block_lt_of_cell? w4 _ hc9
  have hlo9:=HC0.out.lo
  have hz4:=HC0.out.bel.size
  have hz41:=World.block_lt_of_cell? w4 _ HC0.out.c8
  have HO9:=Lib.hid ho9
  have c4:=(hb45.cell (p:=⟨w.heap.size,0,none⟩) (by simp only at hz41 ⊢;omega)).trans HC0.out.c4
  have c8:=(hb45.cell (p:=⟨w.heap.size+1,0,none⟩) hz41).trans HC0.out.c8
  have f8:=(hb45.frozen (p:=⟨w.heap.size+1,0,none⟩) hz41).trans HC0.out.f8
  have c9:=(hb45.cell (p:=⟨B9,0,none⟩) hB9).trans hc9
  simp only at hz41 hB9
  clear hat hrd hU HU0 z5e hc9 ho9 hb45
  refine wp_range_to (q:=10) (gf:=170) (lb:=#[.pointer (some ⟨w4.heap.size+1,0,none⟩),.pointer (some ⟨w4.heap.size,0,none⟩)]) rfl (fun _ _=>?eg) (UpAt (fun k=>upN m k a) (lenM m a) (w4.heap.size+1) w4.heap.size IB PB 0 m.vers.length m.vers.length) (fun k=>upN m k a) (lenM m a) (w4.heap.size+1) (by omega) ?hit
    (fun k W=>Rd (fun b=>b=w4.heap.size+1) w5 W∧∀ j,j<k→((b :: l).all fun v=>inM m v (rgM m (upN m j a)))=false) (fun W=>Rd (fun b=>b=w4.heap.size+1∨b=w.heap.size+1) w5 W∧W.cell? ⟨w.heap.size+1,0,none⟩=some (.int .i64 (commonM m a (b :: l))))
    (fun k W h=>HAt.out _ W h.1 (by intro b hb;omega) rfl (by omega)) (fun k W W' h t=>⟨h.1.turn rfl t,h.2⟩) (fun W W' h t=>⟨h.1.turn (.inl rfl) t,(World.cell?_of_block (w:=W) (t.old (w.heap.size+1) (by omega) (by omega))).trans h.2⟩) ⟨Rd.refl _ _,fun j hj=>by omega⟩ hv1 ?hassign ?hbody ?hdone ?hstop
  case eg=>first | rfl | simp [go_sem]
  case hit=>exact fun l J Jx W hU hset hdrew hY hj hv=>up1_in (fun k=>upN m k a) (lenM m a) (w4.heap.size+1) w4.heap.size IB PB 0 m.vers.length m.vers.length hend l J Jx W hU hset hdrew hY hj hv
  case hassign =>
   intro l x W K hK
   simp only [List.setIfInBounds_toArray,List.set_cons_succ,List.set_cons_zero] at hK ⊢
   gi_wp2
   exact hK
  case hbody =>
   rintro lp k W hk ⟨hr,hno⟩ hv
   try dsimp only at hr hno hv
   simp only [List.setIfInBounds_toArray,List.set_cons_succ,List.set_cons_zero]
   obtain ⟨e1,q⟩:=HRd.out _ W hr (by intro b hb;omega)
   obtain ⟨j,hj,hjl,q0,q1,q4⟩:=q k hk
   have e4:=(hr.cell (b:=w.heap.size) (k:=0) (by omega) (by omega)).trans c4
   have e8:=(hr.cell (b:=w.heap.size+1) (k:=0) (by omega) (by omega)).trans c8
   have e9:=(hr.cell (b:=B9) (k:=0) (by omega) (by omega)).trans c9
   have g8:=(World.frozen?_of_block (w:=w5) (a:=⟨w.heap.size+1,0,none⟩) (hr.blk (w.heap.size+1) (by omega) (by omega))).trans f8
   have hWz:=hr.size
   have hFound:Hid (((b :: l).all fun v=>inM m v (rgM m (upN m k a)))=true→commonM m a (b :: l)=rgM m (upN m k a)):=fun h=>(HD.out _).2 (by rw [find_ups hk hno h])
   have HNo:Hid (∀ b',((b :: l).all fun v=>inM m v (rgM m (upN m k a)))=b'→b'=false→∀ j,j<k+1→((b :: l).all fun v=>inM m v (rgM m (upN m j a)))=false):=fun b' hb hf j hj=>by
     by_cases e:j=k
     · rw [e,hb,hf]
     · exact hno j (by omega)
   rw [hj] at hFound HNo
   have hj0:(0:Int)≤(j:Int):=by omega
   have hj1:(j:Int)<(m.vers.length:Int):=by omega
   rw [hj]
   have HR:=Lib.hid hr
   have HW4:Hid (Below w4.heap.size w4 W):=HB45.out.trans (hr.below (by omega) (fun b' hb=>by omega))
   obtain ⟨r,hrr⟩:∃ r,rgM m (j:Int)=r:=⟨_,rfl⟩
   rw [hrr] at q1 hFound HNo
   have HCt:Hid (∀ wx,Below W.heap.size W wx→∀ B11,wx.cell? ⟨B11,0,none⟩=some (.int .i64 r)→_):=fun wx g B11 h11=>containsC_any (HI4.out.grown (HW4.out.trans (g.mono HW4.out.size))) h0 (b :: l) v9 r w.heap.size B11 ((g.cell (p:=⟨w.heap.size,0,none⟩) (by simp only;omega)).trans e4) h11 (ownsRow_keep HO9.out (HW4.out.trans (g.mono HW4.out.size))) (by simp;omega) (by simp)
   unfold AnyC at HCt
   have HK:Hid (∀ w2,Below (W.alloc (.cells #[.int .i64 r] 3)).heap.size (W.alloc (.cells #[.int .i64 r] 3)) w2→Below W.heap.size W w2∧w2.cell? ⟨W.heap.size,0,none⟩=some (.int .i64 r)∧w2.cell? ⟨w.heap.size+1,0,none⟩=some (.int .i64 0)∧w2.frozen? ⟨w.heap.size+1,0,none⟩=false∧w2.cell? ⟨w4.heap.size+1,0,none⟩=some (.int .i64 j)):=by
     intro w2 g
     have g2:Below W.heap.size W w2:=below_bx1 g
     exact ⟨g2,bx1 g (by simp),(g2.cell (p:=⟨w.heap.size+1,0,none⟩) (by simp only;omega)).trans e8,(g2.frozen (p:=⟨w.heap.size+1,0,none⟩) (by simp only;omega)).trans g8,(g2.cell (p:=⟨w4.heap.size+1,0,none⟩) (by simp only;omega)).trans (by rw [← hj];exact hv)⟩
   have h11:(W.alloc (.cells #[.int .i64 r] 3)).cell? ⟨W.heap.size,0,none⟩=some (.int .i64 r):=by simp
   have e91:(W.alloc (.cells #[.int .i64 r] 3)).cell? ⟨B9,0,none⟩=some v9:=Lib.cell?_alloc_some _ e9
   obtain ⟨X,hX⟩:∃ X,((b :: l).all fun v=>inM m v r)=X:=⟨_,rfl⟩
   rw [hX] at hFound HNo HCt
   clear hr hno q c4 c8 f8 c9 hX hrr hend hv1 hv HAt HRd g8 e8
   cases X with
   | true =>
    have hF:=Lib.hid (hFound.out rfl)
    clear hFound HNo
    gi_wp2_with (refine ⟨trivial,?_⟩;gi_at_call 96;(with_reducible refine (CallsIn.inRound lp (callsIn_wide.2 (HCt.out _ (below_al1 W _) _ h11))).mono ?_);rintro e w2 ⟨rfl,hb2⟩;obtain ⟨hB2,h12,e8,g8,hv2⟩:=HK.out _ hb2)
    refine ⟨?_,?_,?_⟩
    · exact (KeepsB.of_below hB2).trans (KeepsB.set e8)
    · exact ((HR.out.bel (hB2.mono hWz)).weaken (fun _ h=>.inl h)).set (.inl (.inr rfl)) _
    · rw [hF.out];exact World.cell?_setCell_same _ _ _ e8
   | false =>
    have hN:=Lib.hid (HNo.out false rfl rfl)
    clear hFound HNo
    gi_wp2_with (refine ⟨trivial,?_⟩;gi_at_call 96;(with_reducible refine (CallsIn.inRound lp (callsIn_wide.2 (HCt.out _ (below_al1 W _) _ h11))).mono ?_);rintro e w2 ⟨rfl,hb2⟩;obtain ⟨hB2,h12,e8,g8,hv2⟩:=HK.out _ hb2)
    exact ⟨KeepsB.of_below hB2,hv2,HR.out.bel (hB2.mono hWz),hN.out⟩
  case hdone =>
   rintro D W hDl ⟨hr,hno⟩ hK
   try dsimp only at hr hno
   have hp:commonM m a (b :: l)=-1:=(HD.out _).2 (by rw [find_none hno])
   have HP:=Lib.hid hp
   have e8:=(hr.cell (b:=w.heap.size+1) (k:=0) (by omega) (by omega)).trans c8
   have g8:=(World.frozen?_of_block (w:=w5) (a:=⟨w.heap.size+1,0,none⟩) (hr.blk (w.heap.size+1) (by omega) (by omega))).trans f8
   have HM:Hid (Marked w5.heap.size [D] W):=marked_one hK hDl
   have HR:=Lib.hid hr
   clear hr hno hK c4 c8 f8 c9 hp hv1 hend
   go_wp2_with fail
   have hM2:Marked w5.heap.size [D] (W.setCell ⟨w.heap.size+1,0,none⟩ (.int .i64 (-1))):=HM.out.keep fun D' hD'=>Below.heap_setCell _ _ _ _ (by have:=HM.out.lo D' hD';simp only;omega)
   have e7:(Rfu.shut [D] (W.setCell ⟨w.heap.size+1,0,none⟩ (.int .i64 (-1)))).cell? ⟨w.heap.size+1,0,none⟩=some (.int .i64 (-1)) :=
     ((shut_below hM2.lo).cell (p:=⟨w.heap.size+1,0,none⟩) (by simp only;omega)).trans (World.cell?_setCell_same _ _ _ e8)
   refine post_ret (ds:=[D]) hM2 (v:=.int .i64 (-1)) (by simp [results,Tryz.results28,go_sem,e7]) ⟨by rw [HP.out],?_⟩
   have hBW5:Below w.heap.size w w5:=HC0.out.bel.trans (HB45.out.mono HC0.out.bel.size)
   exact hBW5.trans ((((HR.out.below (B:=w.heap.size) (by have:=hBW5.size;omega) (fun b hb=>by omega)).setCell (p:=⟨w.heap.size+1,0,none⟩) (by simp only;omega) _)).trans (shut_below fun D' hD'=>by have:=hM2.lo D' hD';omega))
  case hstop =>
   rintro D W hDl ⟨hr,hc⟩ hK
   try dsimp only at hr hc
   have HM:Hid (Marked w5.heap.size [D] W):=marked_one hK hDl
   have HR:=Lib.hid hr
   clear hr hK c4 c8 f8 c9 hv1 hend
   go_wp2_with fail
   have e7:(Rfu.shut [D] W).cell? ⟨w.heap.size+1,0,none⟩=some (.int .i64 (commonM m a (b :: l))) :=
     ((shut_below HM.out.lo).cell (p:=⟨w.heap.size+1,0,none⟩) (by simp only;omega)).trans hc
   refine post_ret (ds:=[D]) HM.out (v:=.int .i64 (commonM m a (b :: l))) (by simp [results,Tryz.results28,go_sem,e7]) ⟨rfl,?_⟩
   have hBW5:Below w.heap.size w w5:=HC0.out.bel.trans (HB45.out.mono HC0.out.bel.size)
   exact hBW5.trans ((HR.out.below (B:=w.heap.size) (by have:=hBW5.size;omega) (fun b hb=>by omega)).trans (shut_below fun D' hD'=>by have:=HM.out.lo D' hD';have:=hBW5.size;omega))
theorem common_any {B IB:Nat} {m:MdlD} {w:World} (h:IdxAt B m IB w) (a b:Int) (mv:Value) (l:List Int) (hl:l.length≤90000) (hr:RowIn w mv l) (h0:riM m=(0,0,0)) :
   Calls Tryz.prog 28 #[.pointer (some ⟨IB,0,none⟩),.int .i64 a,.int .i64 b,mv] w fun e w'=>e=.returned (.int .i64 (commonM m a (b :: l)))∧Below w.heap.size w w':=by
 cases ha:hasV m a with
 | false=>exact common_no h a b mv (b :: l) ha
 | true =>
  obtain ⟨i,rfl,hi⟩:=hasV_yes ha
  exact common_yes h i b mv l hl hr h0 hi
end Go.Proofs
