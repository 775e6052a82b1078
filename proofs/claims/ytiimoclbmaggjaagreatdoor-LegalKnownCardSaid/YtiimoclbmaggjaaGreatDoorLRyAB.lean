/- Walks: the document's answer for what lies in what: the small ones. -/
import Derived.Test.YtiimoclbmaggjaaGreatDoorLRxAJ
import Derived.Test.YtiimoclbmaggjaaGreatDoorLRyP
namespace Go.Proofs
open Go.RowKit Go.Lx Go.Md Go.Shelf Go.BigFrame Go.Rgi
set_option linter.unusedVariables false
def ixV (m:MdlD) (p:Ph):Value:=mdV m p
theorem hasV_two {m:MdlD} {v:Int} (h:hasV m v=false):v<0∨(0≤v∧¬ v<m.vers.length):=by
 unfold hasV at h
 by_cases h0:0≤v
 · right;simp [h0] at h;exact ⟨h0,by omega⟩
 · left;omega
set_option maxRecDepth 100000 in
set_option maxHeartbeats 1000000 in
theorem rvertex16_any {Q:Nat→BP} (m:MdlD) (p:Ph) (v:Int) (w:World) (h:Mod Q w m p) (hvl:m.vers.length≤140737488355328) :
   Calls Tryz.prog 160 #[ixV m p,.int .i64 v] w fun e w'=>e=.returned (.bool (hasV m v))∧Below w.heap.size w w':=by
 have HB:=Lib.hid (Mb.madeT h 93)
 unfold ixV mdV
 clear h
 cases hv:hasV m v with
 | false =>
  rcases hasV_two hv with h1 | ⟨h1,h2⟩
  · have d1:decide (0≤v)=false:=by simp;omega
    clear hv
    go_enter Tryz.func160,Tryz.ntmps160
    go_wp2_with fail
    go_ret
    exact ⟨rfl,HB.out.bel⟩
  · have d1:decide (0≤v)=true:=by simpa using h1
    have d2:decide (v<(m.vers.length:Int))=false:=by simpa using h2
    clear hv
    go_enter Tryz.func160,Tryz.ntmps160
    go_wp2_with fail
    go_ret
    exact ⟨rfl,HB.out.bel⟩
 | true =>
  unfold hasV at hv
  simp only [Bool.and_eq_true] at hv
  obtain ⟨d1,d2⟩:=hv
  go_enter Tryz.func160,Tryz.ntmps160
  go_wp2_with fail
  go_ret
  exact ⟨rfl,HB.out.bel⟩
theorem upOk_of {m:MdlD} (h0:riM m=(0,0,0)):UpOk m:=upOk (riM_zero.1 h0).2.2.2.1 (riM_zero.1 h0).2.2.2.2.1
theorem st_no {m:MdlD} {v:Int} (h:hasV m v=false):Md.stM m v=false:=by
 cases hs:Md.stM m v with
 | false=>rfl
 | true=>obtain ⟨k,hk,rfl,_⟩:=st_in hs;rw [hasV_at hk] at h;cases h
set_option maxRecDepth 100000 in
set_option maxHeartbeats 1000000 in
theorem rstate16_any {Q:Nat→BP} (m:MdlD) (p:Ph) (v:Int) (w:World) (h:Mod Q w m p) (hvl:m.vers.length≤140737488355328) :
   Calls Tryz.prog 162 #[ixV m p,.int .i64 v] w fun e w'=>e=.returned (.bool (Md.stM m v))∧Below w.heap.size w w':=by
 have HB:=Lib.hid (Mb.madeT h 93)
 have HC:=Lib.hid (fun wx (g:Mb m p w.heap.size w wx)=>rvertex16_any m p v wx g.mod hvl)
 unfold ixV mdV at HC ⊢
 cases hv:hasV m v with
 | false =>
  rw [st_no hv]
  rw [hv] at HC
  clear h hv
  go_enter Tryz.func162,Tryz.ntmps162
  go_wp2_with ((with_reducible refine (HC.out _ HB.out).mono ?_);rintro e w2 ⟨rfl,g2⟩)
  go_ret
  exact ⟨rfl,(HB.out.below g2).bel⟩
 | true =>
  obtain ⟨k,rfl,hk⟩:=hasV_yes hv
  rw [stM_at hk]
  rw [hv] at HC
  have HV:=Lib.hid (fun wx (g:Mb m p w.heap.size w wx)=>g.mod.vers.get hk)
  have hcap:=h.vers.cap (by omega)
  have h1:(0:Int)≤(k:Int):=by omega
  have h2:(k:Int)<(m.vers.length:Int):=by omega
  obtain ⟨x,hx⟩:∃ x,x=m.vers[k]:=⟨_,rfl⟩
  rw [← hx] at HV ⊢
  clear h hv hx
  cases d2:(x.kd == 1) with
  | true =>
   have e2:((x.kd:Int) == 1)=true:=by simp at d2 ⊢;omega
   clear d2
   go_enter Tryz.func162,Tryz.ntmps162
   go_wp2_with fail
   (with_reducible refine (HC.out _ HB.out).mono ?_)
   rintro e w2 ⟨rfl,g2⟩
   have HB2:=Lib.hid (HB.out.below g2)
   obtain ⟨b1,o1,ha1,hb1,dv,_,r0,r1,_⟩:=HV.out _ HB2.out
   obtain ⟨x0,x1,x2,x3,x4,x5,_⟩:=HB2.out.box
   rw [ha1] at x4
   clear HC HB g2 HV ha1
   go_wp2_with fail
   go_ret
   exact ⟨rfl,HB2.out.bel⟩
  | false =>
   have e2:((x.kd:Int) == 1)=false:=by simp at d2 ⊢;omega
   clear d2
   go_enter Tryz.func162,Tryz.ntmps162
   go_wp2_with fail
   (with_reducible refine (HC.out _ HB.out).mono ?_)
   rintro e w2 ⟨rfl,g2⟩
   have HB2:=Lib.hid (HB.out.below g2)
   obtain ⟨b1,o1,ha1,hb1,dv,_,r0,r1,_⟩:=HV.out _ HB2.out
   obtain ⟨x0,x1,x2,x3,x4,x5,_⟩:=HB2.out.box
   rw [ha1] at x4
   clear HC HB g2 HV ha1
   go_wp2_with fail
   go_ret
   exact ⟨rfl,HB2.out.bel⟩
set_option maxRecDepth 100000 in
set_option maxHeartbeats 1000000 in
theorem rparent16_any {Q:Nat→BP} (m:MdlD) (p:Ph) (v:Int) (w:World) (h:Mod Q w m p) (h0:riM m=(0,0,0)) (hvl:m.vers.length≤140737488355328) (hrl:m.regs.length≤140737488355328) :
   Calls Tryz.prog 76 #[ixV m p,.int .i64 v] w fun e w'=>e=.returned (.int .i64 (parM m v))∧Below w.heap.size w w':=by
 have HB:=Lib.hid (Mb.madeT h 93)
 have HC:=Lib.hid (fun wx (g:Mb m p w.heap.size w wx)=>rvertex16_any m p v wx g.mod hvl)
 have HA:=Lib.hid (fun wx (g:Mb m p w.heap.size w wx) (k:Nat) (hk:k<m.vers.length)=>raround_any m p k wx g.mod (upOk_of h0) hk hvl hrl)
 unfold ixV mdV at HC ⊢
 unfold mdV at HA
 clear h h0
 cases hv:hasV m v with
 | false =>
  have hp:parM m v=-1:=by unfold parM;rw [hv];rfl
  rw [hp]
  rw [hv] at HC
  clear hv hp HA
  go_enter Tryz.func76,Tryz.ntmps76
  go_wp2_with ((with_reducible refine (HC.out _ HB.out).mono ?_);rintro e w2 ⟨rfl,g2⟩)
  go_ret
  exact ⟨rfl,(HB.out.below g2).bel⟩
 | true =>
  obtain ⟨k,rfl,hk⟩:=hasV_yes hv
  have hp:parM m k=arM m k:=by unfold parM;rw [hv];rfl
  rw [hp]
  rw [hv] at HC
  have HAk:=Lib.hid (fun wx g=>HA.out wx g k hk)
  clear hv hp hk HA
  go_enter Tryz.func76,Tryz.ntmps76
  go_wp2_with fail
  (with_reducible refine (HC.out _ HB.out).mono ?_)
  rintro e w2 ⟨rfl,g2⟩
  have HB2:=Lib.hid (HB.out.below g2)
  obtain ⟨x0,x1,x2,x3,x4,x5,_⟩:=HB2.out.box
  clear HC HB g2
  go_wp2_with fail
  (with_reducible refine (HAk.out _ HB2.out).mono ?_)
  rintro e w3 ⟨rfl,g3⟩
  have HB3:=Lib.hid (HB2.out.below g3)
  clear x0 x1 x2 x3 x4 x5 g3 HB2
  go_wp2_with fail
  go_ret
  exact ⟨rfl,HB3.out.bel⟩
set_option maxRecDepth 100000 in
set_option maxHeartbeats 1000000 in
theorem rhome16_any {Q:Nat→BP} (m:MdlD) (p:Ph) (v:Int) (w:World) (h:Mod Q w m p) (h0:riM m=(0,0,0)) (hvl:m.vers.length≤140737488355328) :
   Calls Tryz.prog 77 #[ixV m p,.int .i64 v] w fun e w'=>e=.returned (.int .i64 (homeM m v))∧Below w.heap.size w w':=by
 have HB:=Lib.hid (Mb.madeT h 93)
 have HC:=Lib.hid (fun wx (g:Mb m p w.heap.size w wx)=>rvertex16_any m p v wx g.mod hvl)
 unfold ixV mdV at HC ⊢
 cases hv:hasV m v with
 | false =>
  have hp:homeM m v=-1:=by unfold homeM;rw [hv];rfl
  rw [hp]
  rw [hv] at HC
  clear hv hp h
  go_enter Tryz.func77,Tryz.ntmps77
  go_wp2_with ((with_reducible refine (HC.out _ HB.out).mono ?_);rintro e w2 ⟨rfl,g2⟩)
  go_ret
  exact ⟨rfl,(HB.out.below g2).bel⟩
 | true =>
  obtain ⟨k,rfl,hk⟩:=hasV_yes hv
  have hp:homeM m k=rgM m k:=by unfold homeM;rw [hv];rfl
  rw [hp]
  rw [hv] at HC
  have HV:=Lib.hid (fun wx (g:Mb m p w.heap.size w wx) (j:Nat) (hj:j<m.vers.length)=>g.mod.vers.get hj)
  have hcap:=h.vers.cap (by omega)
  have h1:(0:Int)≤(k:Int):=by omega
  have h2:(k:Int)<(m.vers.length:Int):=by omega
  have hE:rgM m k=if 0≤m.vers[k].ofv then (match m.vers[m.vers[k].ofv.toNat]? with | some y=>y.rg | none=>-1) else m.vers[k].rg:=by
    unfold rgM;rw [Int.toNat_natCast,List.getElem?_eq_getElem hk];rfl
  have HVk:=Lib.hid (fun wx (g:Mb m p w.heap.size w wx)=>HV.out wx g k hk)
  rcases ver_right h0 hk with ⟨q1,s,hs,q2,q3,q4⟩ | ⟨q1,q5⟩
  · rw [if_pos q1,q2,Int.toNat_natCast,List.getElem?_eq_getElem hs] at hE
    have hE':rgM m k=m.vers[s].rg:=hE
    rw [hE']
    have HVs:=Lib.hid (fun wx (g:Mb m p w.heap.size w wx)=>HV.out wx g s hs)
    have h3:(0:Int)≤(s:Int):=by omega
    have h4:(s:Int)<(m.vers.length:Int):=by omega
    have d0:decide ((0:Int)≤(s:Int))=true:=by simp
    obtain ⟨x,hx⟩:∃ x,x=m.vers[k]:=⟨_,rfl⟩
    obtain ⟨y,hy⟩:∃ y,y=m.vers[s]:=⟨_,rfl⟩
    rw [← hx] at HVk q2
    rw [← hy] at HVs ⊢
    clear q3 q4 h hv hx hy hE hE' hk hs q1 HV h0 hp
    go_enter Tryz.func77,Tryz.ntmps77
    have HQ2:=Lib.hid q2
    clear q2
    go_wp2_with fail
    (with_reducible refine (HC.out _ HB.out).mono ?_)
    rintro e w2 ⟨rfl,g2⟩
    have HB2:=Lib.hid (HB.out.below g2)
    obtain ⟨b1,o1,ha1,hb1,dv,_,r0,r1,r2,r3,_⟩:=HVk.out _ HB2.out
    obtain ⟨b2,o2,ha2,hb2,dv2,_,s0,s1,s2,_⟩:=HVs.out _ HB2.out
    obtain ⟨x0,x1,x2,x3,x4,x5,_⟩:=HB2.out.box
    rw [ha1] at x4 ha2
    simp only [Option.some.injEq,Addr.mk.injEq,and_true] at ha2
    obtain ⟨rfl,rfl⟩:=ha2
    rw [HQ2.out] at r3
    clear HC HB g2 HVk HVs ha1 HQ2 r0 r1 r2 s0 s1 x0 x1 x2 x3 x5
    go_wp2_with fail
    go_quiet (fail)
    go_wp2_with fail
    go_ret
    exact ⟨rfl,below_drewN HB2.out.bel nq⟩
  · rw [if_neg (by omega)] at hE
    rw [hE]
    have d0:decide (0≤m.vers[k].ofv)=false:=by simp;omega
    obtain ⟨x,hx⟩:∃ x,x=m.vers[k]:=⟨_,rfl⟩
    rw [← hx] at HVk d0 ⊢
    clear q5 h hv hx hE hk q1 HV h0 hp
    go_enter Tryz.func77,Tryz.ntmps77
    go_wp2_with fail
    (with_reducible refine (HC.out _ HB.out).mono ?_)
    rintro e w2 ⟨rfl,g2⟩
    have HB2:=Lib.hid (HB.out.below g2)
    obtain ⟨b1,o1,ha1,hb1,dv,_,r0,r1,r2,r3,_⟩:=HVk.out _ HB2.out
    obtain ⟨x0,x1,x2,x3,x4,x5,_⟩:=HB2.out.box
    rw [ha1] at x4
    clear HC HB g2 HVk ha1 r0 r1 x0 x1 x2 x3 x5
    go_wp2_with fail
    go_ret
    exact ⟨rfl,HB2.out.bel⟩
theorem find_any {α:Type} (f:α→Bool):∀ l:List α,(l.find? f).isSome=l.any f
 | []=>rfl
 | x :: t=>by
   rw [List.find?_cons,List.any_cons]
   cases f x
   · exact find_any f t
   · rfl
theorem any_neg {m:MdlD} {x:Int} (f:Int→Bool) (h:x<0):(upsM m x).any f=false:=by rw [ups_neg m h];rfl
theorem any_at {m:MdlD} (h0:riM m=(0,0,0)) {k:Nat} (hk:k<m.vers.length) (f:Int→Bool):(upsM m k).any f=(f k || (upsM m (arM m k)).any f):=by rw [ups_cons h0 hk,List.any_cons]
theorem ar_nat {m:MdlD} (h0:riM m=(0,0,0)) {k:Nat} (hk:k<m.vers.length):arM m k<0∨∃ j:Nat,arM m k=j∧j<m.vers.length:=by
 rcases ar_at h0 hk with e | ⟨s,hs,e,_⟩
 · exact .inl (by omega)
 · exact .inr ⟨s,e,hs⟩
theorem len_dn {m:MdlD} (h0:riM m=(0,0,0)) {k:Nat} (hk:k<m.vers.length):lenM m (arM m k)<lenM m (k:Int):=by
 rw [(len_par h0 hk).1,(len_self h0 hk).1];omega
theorem Mb.low {m:MdlD} {p:Ph} {w wx wy:World} (h:Mb m p w.heap.size w wx) (g:Below (w.heap.size+1) wx wy):Mb m p w.heap.size w wy :=
 ⟨h.bel.trans (g.mono (by omega)),h.mod.kept fun j=>⟨g.size,fun b hb hQ=>g.block b (by have:b<w.heap.size:=hQ;omega)⟩,h.box.below g (by omega)⟩
theorem push_low {N:Nat} {T:TypeId} {w W':World} {v:Value} {l:List Int} {o:Obj} (hz:N≤w.heap.size) (ho:w.ownsRow N T 1 v l.length (nums l)) (hg:(w.alloc o).grownBy W' v.ownBlock):Below N w W' :=
 Below.grown ((Below.refl N w).alloc hz _) hg (by simp;omega) (fun j hj=>(ho.lt _ hj).1)
set_option maxRecDepth 100000 in
set_option maxHeartbeats 2000000 in
theorem runder16_any {Q:Nat→BP} (m:MdlD) (p:Ph) (v s:Int) (w:World) (h:Mod Q w m p) (h0:riM m=(0,0,0)) (hvl:m.vers.length≤140737488355328) (hrl:m.regs.length≤140737488355328) :
   Calls Tryz.prog 71 #[ixV m p,.int .i64 v,.int .i64 s] w fun e w'=>e=.returned (.bool (underM m v s))∧Below w.heap.size w w':=by
 have HB:=Lib.hid (Mb.madeT h 93)
 have HC:=Lib.hid (fun wx (g:Mb m p w.heap.size w wx)=>rvertex16_any m p v wx g.mod hvl)
 have HS:=Lib.hid (fun wx (g:Mb m p w.heap.size w wx)=>rstate16_any m p s wx g.mod hvl)
 have HP:=Lib.hid (fun wx (g:Mb m p w.heap.size w wx) (x:Int)=>rparent16_any m p x wx g.mod h0 hvl hrl)
 have H0:=Lib.hid h0
 unfold ixV mdV at HC HS HP ⊢
 clear h h0
 cases hv:hasV m v with
 | false =>
  have hp:underM m v s=false:=by unfold underM;rw [hv];rfl
  rw [hp]
  rw [hv] at HC
  clear hv hp HP HS
  go_enter Tryz.func71,Tryz.ntmps71
  go_wp2_with ((with_reducible refine (HC.out _ HB.out).mono ?_);rintro e w2 ⟨rfl,g2⟩)
  go_ret
  exact ⟨rfl,(HB.out.below g2).bel⟩
 | true =>
  obtain ⟨k,rfl,hk⟩:=hasV_yes hv
  rw [hv] at HC
  cases hs:Md.stM m s with
  | false =>
   have hp:underM m k s=false:=by unfold underM;rw [hs];simp
   rw [hp]
   rw [hs] at HS
   clear hv hp HP hs
   go_enter Tryz.func71,Tryz.ntmps71
   go_wp2_with fail
   (with_reducible refine (HC.out _ HB.out).mono ?_)
   rintro e w2 ⟨rfl,g2⟩
   have HB2:=Lib.hid (HB.out.below g2)
   obtain ⟨x0,x1,x2,x3,x4,x5,_⟩:=HB2.out.box
   clear HC HB g2
   go_wp2_with fail
   (with_reducible refine (HS.out _ HB2.out).mono ?_)
   rintro e w3 ⟨rfl,g3⟩
   go_wp2_with fail
   go_ret
   exact ⟨rfl,(HB2.out.below g3).bel⟩
  | true =>
   have hE:Hid (underM m k s=(upsM m (arM m k)).any fun x=>x == s):=Lib.hid (by
     obtain ⟨t,ht,rfl,_⟩:=st_in hs
     unfold underM
     rw [hv,hs,hasV_at ht,find_any];rfl)
   have hK:=Lib.hid hk
   have hp1:Hid (parM m k=arM m k):=Lib.hid (by unfold parM;rw [hv];rfl)
   rw [hs] at HS
   clear hv hs hk
   go_enter Tryz.func71,Tryz.ntmps71
   go_wp2_with fail
   (with_reducible refine (HC.out _ HB.out).mono ?_)
   rintro e w2 ⟨rfl,g2⟩
   have HB2:=Lib.hid (HB.out.below g2)
   obtain ⟨x0,x1,x2,x3,x4,x5,_⟩:=HB2.out.box
   clear HC HB g2
   go_wp2_with fail
   (with_reducible refine (HS.out _ HB2.out).mono ?_)
   rintro e w3 ⟨rfl,g3⟩
   have HB3:=Lib.hid (HB2.out.below g3)
   clear x0 x1 x2 x3 x4 x5 g3 HB2 HS
   obtain ⟨x0,x1,x2,x3,x4,x5,_⟩:=HB3.out.box
   go_wp2_with fail
   (with_reducible refine (HP.out _ HB3.out _).mono ?_)
   rintro e w4 ⟨rfl,g4⟩
   have HB4:=Lib.hid (HB3.out.below g4)
   rw [hp1.out]
   clear x0 x1 x2 x3 x4 x5 g4 HB3
   go_wp2_with fail
   go_loopw [7] (fun a wr=>∃ x:Int,a=.int .i64 x∧(x<0∨∃ j:Nat,x=j∧j<m.vers.length)∧Mb m p w.heap.size w wr∧Hid (underM m k s=(upsM m x).any fun x=>x == s)) (fun a _=>lenM m (intOf a))
   case atStart=>exact ⟨_,rfl,ar_nat H0.out hK.out,HB4.out,hE⟩
   case round =>
    obtain ⟨wo,rfl⟩:∃ wo:World,wo=wr:=⟨_,rfl⟩
    obtain ⟨x,rfl,hx,hb,hF⟩:=hrel
    have HB5:=Lib.hid hb
    clear hb HB4 hE
    rcases hx with hx | ⟨j,rfl,hj⟩
    · have d1:decide (0≤x)=false:=by simpa using hx
      have hR:Hid (underM m k s=false):=Lib.hid (by rw [hF.out];exact any_neg _ hx)
      clear hF
      go_wp2_with fail
      go_ret
      exact ⟨by rw [hR.out];rfl,HB5.out.bel⟩
    · have d1:decide ((0:Int)≤(j:Int))=true:=by simp
      have hF2:=hF.out
      rw [any_at H0.out hj] at hF2
      cases d2:((j:Int) == s) with
      | true =>
       have hR:Hid (underM m k s=true):=Lib.hid (by rw [hF2,d2];rfl)
       clear hF hF2
       go_wp2_with fail
       go_ret
       exact ⟨by rw [hR.out];rfl,HB5.out.bel⟩
      | false =>
       have hR:Hid (underM m k s=(upsM m (arM m j)).any fun x=>x == s):=Lib.hid (by rw [hF2,d2];rfl)
       have hp2:Hid (parM m j=arM m j):=Lib.hid (by unfold parM;rw [hasV_at hj];rfl)
       have hD:Hid (lenM m (arM m j)<lenM m (j:Int)):=Lib.hid (len_dn H0.out hj)
       have hJ:=Lib.hid hj
       obtain ⟨x0,x1,x2,x3,x4,x5,_⟩:=HB5.out.box
       clear hF hF2 hj
       go_wp2_with fail
       (with_reducible refine (HP.out _ HB5.out _).mono ?_)
       rintro e w6 ⟨rfl,g6⟩
       rw [hp2.out]
       have HB6:=Lib.hid (HB5.out.below g6)
       clear x0 x1 x2 x3 x4 x5 g6
       go_wp2_with fail
       go_roundw
       case rel=>exact ⟨_,rfl,ar_nat H0.out hJ.out,HB6.out,hR⟩
       case measure=>exact hD.out
theorem Mod.ownC {Q:Nat→BP} {w:World} {m:MdlD} {p:Ph} (h:Mod Q w m p) {k:Nat} (hk:k<m.regs.length):∃ b o,p.a3=some ⟨b,o,none⟩∧b<w.heap.size∧w.cell? ⟨b,o+k * 2+1,none⟩=some (.int .i64 m.regs[k].own):=by
 obtain ⟨b,o,e,hb,_,h1⟩:=h.regs.get hk
 exact ⟨b,o,e,hb,h1⟩
set_option maxRecDepth 100000 in
set_option maxHeartbeats 2000000 in
theorem rregions16_any {Q:Nat→BP} (m:MdlD) (p:Ph) (s:Int) (w:World) (h:Mod Q w m p) (hrl:m.regs.length≤100000) :
   Calls Tryz.prog 72 #[ixV m p,.int .i64 s] w (RowP (ownM m s) w):=by
 have HB:=Lib.hid (Mb.madeT h 93)
 have HV:=Lib.hid (fun wx (g:Mb m p w.heap.size w wx) (j:Nat) (hj:j<m.regs.length)=>g.mod.ownC hj)
 have hcap:=Lib.hid (fun h0=>h.regs.cap h0)
 obtain ⟨iI,hiI,zI0,zI1,zI2⟩:=info_parts info_Num
 have HL:Hid (ownM m s=sel (isOwn s) (m.regs.take m.regs.length)):=Lib.hid (by rw [List.take_length];rfl)
 have HT:=Lib.hid (fun (k:Nat) (h:k<m.regs.length)=>sel_take (isOwn s) (l:=m.regs) h)
 have HZ:=Lib.hid (sel_take0 (isOwn s) m.regs)
 have HN:=Lib.hid (fun k=>sel_len (isOwn s) (m.regs.take k))
 unfold ixV mdV
 clear h
 go_enter Tryz.func72,Tryz.ntmps72
 go_wp2_with fail
 go_loopw [5,6] (fun o i wr=>∃ k:Nat,k≤m.regs.length∧i=.int .i64 k∧Mb m p w.heap.size w wr∧wr.ownsRow (w.heap.size+1) 3 1 o (sel (isOwn s) (m.regs.take k)).length (nums (sel (isOwn s) (m.regs.take k)))) (fun _ i _=>m.regs.length - (intOf i).toNat)
 case atStart=>exact ⟨0,by omega,rfl,HB.out,by rw [HZ.out];exact World.ownsRow_nil _ _ _ _⟩
 case round =>
  obtain ⟨wo,rfl⟩:∃ wo:World,wo=wr:=⟨_,rfl⟩
  obtain ⟨k,hk,rfl,hb,ho⟩:=hrel
  have HB5:=Lib.hid hb
  have HO:=Lib.hid ho
  clear hb HB HZ ho
  obtain ⟨x0,x1,x2,x3,x4,x5,_⟩:=HB5.out.box
  by_cases hlt:k<m.regs.length
  · have hI:(k:Int)<(m.regs.length:Int):=by omega
    have hI0:(0:Int)≤(k:Int):=by omega
    obtain ⟨b1,o1,ha1,hb1,r1⟩:=HV.out wo HB5.out k hlt
    have hcp:=hcap.out (by omega)
    have hS:=HT.out k hlt
    obtain ⟨x,hx⟩:∃ x,x=m.regs[k]:=⟨_,rfl⟩
    rw [← hx] at hS r1
    have hln:=HN.out k
    have hln2:(sel (isOwn s) (m.regs.take k)).length≤k:=by rw [List.length_take] at hln;omega
    have hz5:w.heap.size+1≤wo.heap.size:=HB5.out.box.sl
    rw [ha1] at x3
    clear HV HT HN hx hln ha1
    cases hd:(x.own == s) with
    | false =>
     have hS2:Hid (sel (isOwn s) (m.regs.take (k+1))=sel (isOwn s) (m.regs.take k)):=Lib.hid (by rw [hS];unfold isOwn;rw [hd];simp)
     clear hS hcap
     go_wp2_with fail
     go_roundw
     case rel=>exact ⟨k+1,by omega,by go_num,HB5.out,by rw [hS2.out];exact HO.out⟩
     case measure=>simp [intOf] <;> omega
    | true =>
     have hS2:Hid (sel (isOwn s) (m.regs.take (k+1))=sel (isOwn s) (m.regs.take k) ++ [(k:Int)]):=Lib.hid (by rw [hS];unfold isOwn;rw [hd];simp)
     clear hS hcap
     go_wp2_with (at_builtin;refine wpList_append_row _ rfl _ _ 31 rfl 3 (w.heap.size+1) iI (.int .i64 0) Tryz.underlying31 hiI zI0 zI1 zI2 rfl _ (sel (isOwn s) (m.regs.take k)) rfl (HO.out.alloc _) _ [(k:Int)] rfl (row1 _ _ _) (by simp;omega) (by simp;omega) ?_;intro v4 w4 hown4 hgrow4 hnxt4)
     have HB6:=Lib.hid (HB5.out.low (push_low hz5 HO.out hgrow4))
     go_roundw
     case rel=>exact ⟨k+1,by omega,by go_num,HB6.out,by rw [hS2.out];exact hown4⟩
     case measure=>simp [intOf] <;> omega
  · obtain rfl:k=m.regs.length:=by omega
    clear HV HT HN hcap
    rw [← HL.out] at HO
    go_wp2_with fail
    go_ret
    exact ⟨_,rfl,HO.out.mono (by omega),HB5.out.bel⟩
end Go.Proofs
