/- Walks: the document's answer for what lies in what: the small ones. -/
import Derived.Test.YtiimoclbmaggjaaGreatDoorZRxAJ
import Derived.Test.YtiimoclbmaggjaaGreatDoorZRyP
namespace Go.Proofs
open Go.RowKit Go.Lx Go.Md Go.Shelf Go.BigFrame Go.Rgi
open Lib(hid)
open Go.Proofs.Tryz
set_option maxRecDepth 100000
set_option maxHeartbeats 0
set_option linter.unusedVariables false
def ixV (m:MdlD) (p:Ph):Value:=mdV m p
theorem hasV_two {m:MdlD} {v:Int} (h:hasV m v=false):v<0\/(0<=v/\¬ v<m.zc.length):=by
 unfold hasV at h
 by_cases h0:0<=v
 . right;simp [h0] at h;exact ⟨h0,by omega⟩
 . left;omega
theorem hasR_two {m:MdlD} {v:Int} (h:hasR m v=false):v<0\/(0<=v/\¬ v<m.zb.length):=by
 unfold hasR at h
 by_cases h0:0<=v
 . right;simp [h0] at h;exact ⟨h0,by omega⟩
 . left;omega
theorem yn {Q:Nat->BP} (m:MdlD) (p:Ph) (v:Int) (w:World) (h:Mod Q w m p) (hvl:m.zc.length<=140737488355328) :
   Calls prog 160 #[ixV m p,.int .i64 v] w fun e w'=>e=.returned (.bool (hasV m v))/\Bl w w':=by
 have HB:=hid (Mb.madeT h 93);unfold ixV mdV;clear h
 cases hv:hasV m v with
 | false =>
  rcases hasV_two hv with h1 | ⟨h1,h2⟩
  . have d1:decide (0<=v)=false:=by simp;omega
    clear hv;go_enter func160,ntmps160;go_wp2_with fail;go_ret;exact ⟨rfl,HB.o.bel⟩
  . have d1:decide (0<=v)=true:=by simpa using h1
    have d2:decide (v<(m.zc.length:Int))=false:=by simpa using h2
    clear hv;go_enter func160,ntmps160;go_wp2_with fail;go_ret;exact ⟨rfl,HB.o.bel⟩
 | true =>
  unfold hasV at hv;simp only [Bool.and_eq_true] at hv;obtain ⟨d1,d2⟩:=hv;go_enter func160,ntmps160;go_wp2_with fail;go_ret;exact ⟨rfl,HB.o.bel⟩
theorem zbb {Q:Nat->BP} (m:MdlD) (p:Ph) (v:Int) (w:World) (h:Mod Q w m p) (hvl:m.zb.length<=140737488355328) :
   Calls prog 161 #[ixV m p,.int .i64 v] w fun e w'=>e=.returned (.bool (hasR m v))/\Bl w w':=by
 have HB:=hid (Mb.madeT h 93);unfold ixV mdV;clear h
 cases hv:hasR m v with
 | false =>
  rcases hasR_two hv with h1 | ⟨h1,h2⟩
  . have d1:decide (0<=v)=false:=by simp;omega
    clear hv;go_enter func161,ntmps161;go_wp2_with fail;go_ret;exact ⟨rfl,HB.o.bel⟩
  . have d1:decide (0<=v)=true:=by simpa using h1
    have d2:decide (v<(m.zb.length:Int))=false:=by simpa using h2
    clear hv;go_enter func161,ntmps161;go_wp2_with fail;go_ret;exact ⟨rfl,HB.o.bel⟩
 | true =>
  unfold hasR at hv;simp only [Bool.and_eq_true] at hv;obtain ⟨d1,d2⟩:=hv;go_enter func161,ntmps161;go_wp2_with fail;go_ret;exact ⟨rfl,HB.o.bel⟩
theorem upOk_of {m:MdlD} (h0:riM m=(0,0,0)):UpOk m:=upOk (yB.1 h0).2.2.2.1 (yB.1 h0).2.2.2.2.1
theorem st_no {m:MdlD} {v:Int} (h:hasV m v=false):Md.stM m v=false:=by
 cases hs:Md.stM m v with
 | false=>rfl
 | true=>obtain ⟨k,hk,rfl,_⟩:=st_in hs;rw [zE hk] at h;cases h
theorem zci {Q:Nat->BP} (m:MdlD) (p:Ph) (v:Int) (w:World) (h:Mod Q w m p) (hvl:m.zc.length<=140737488355328) :
   Calls prog 162 #[ixV m p,.int .i64 v] w fun e w'=>e=.returned (.bool (Md.stM m v))/\Bl w w':=by
 have HB:=hid (Mb.madeT h 93);have HC:=hid (fun wx (g:Mb m p w.heap.size w wx)=>yn m p v wx g.mod hvl);unfold ixV mdV at HC |-
 cases hv:hasV m v with
 | false =>
  rw [st_no hv];rw [hv] at HC;clear h hv;go_enter func162,ntmps162;go_wp2_with ((with_reducible refine (HC.o _ HB.o).mono ?_);rintro e w2 ⟨rfl,g2⟩);go_ret;exact ⟨rfl,(HB.o.zf g2).bel⟩
 | true =>
  obtain ⟨k,rfl,hk⟩:=zZ hv;rw [stM_at hk];rw [hv] at HC;have HV:=hid (fun wx (g:Mb m p w.heap.size w wx)=>g.mod.zc.get hk);have hcap:=h.zc.cap (by omega);have h1:(0:Int)<=(k:Int):=by omega
  have h2:(k:Int)<(m.zc.length:Int):=by omega
  obtain ⟨x,hx⟩:∃ x,x=m.zc[k]:=⟨_,rfl⟩;rw [<- hx] at HV |-;clear h hv hx
  cases d2:(x.kd == 1) with
  | true =>
   have e2:((x.kd:Int) == 1)=true:=by simp at d2 |-;omega
   clear d2;go_enter func162,ntmps162;go_wp2_with fail;(with_reducible refine (HC.o _ HB.o).mono ?_);rintro e w2 ⟨rfl,g2⟩;have HB2:=hid (HB.o.zf g2);obtain ⟨b1,o1,ha1,hb1,dv,_,r0,r1,_⟩:=HV.o _ HB2.o;obtain ⟨x0,x1,x2,x3,x4,x5,_⟩:=HB2.o.box;rw [ha1] at x4;clear HC HB g2 HV ha1;go_wp2_with fail;go_ret;exact ⟨rfl,HB2.o.bel⟩
  | false =>
   have e2:((x.kd:Int) == 1)=false:=by simp at d2 |-;omega
   clear d2;go_enter func162,ntmps162;go_wp2_with fail;(with_reducible refine (HC.o _ HB.o).mono ?_);rintro e w2 ⟨rfl,g2⟩;have HB2:=hid (HB.o.zf g2);obtain ⟨b1,o1,ha1,hb1,dv,_,r0,r1,_⟩:=HV.o _ HB2.o;obtain ⟨x0,x1,x2,x3,x4,x5,_⟩:=HB2.o.box;rw [ha1] at x4;clear HC HB g2 HV ha1;go_wp2_with fail;go_ret;exact ⟨rfl,HB2.o.bel⟩
theorem jD {Q:Nat->BP} (m:MdlD) (p:Ph) (v:Int) (w:World) (h:Mod Q w m p) (h0:riM m=(0,0,0)) (hvl:m.zc.length<=140737488355328) (hrl:m.zb.length<=140737488355328) :
   Calls prog 76 #[ixV m p,.int .i64 v] w fun e w'=>e=.returned (.int .i64 (parM m v))/\Bl w w':=by
 have HB:=hid (Mb.madeT h 93);have HC:=hid (fun wx (g:Mb m p w.heap.size w wx)=>yn m p v wx g.mod hvl);have HA:=hid (fun wx (g:Mb m p w.heap.size w wx) (k:Nat) (hk:k<m.zc.length)=>kO m p k wx g.mod (upOk_of h0) hk hvl hrl);unfold ixV mdV at HC |-;unfold mdV at HA;clear h h0
 cases hv:hasV m v with
 | false =>
  have hp:parM m v=-1:=by unfold parM;rw [hv];rfl
  rw [hp];rw [hv] at HC;clear hv hp HA;go_enter func76,ntmps76;go_wp2_with ((with_reducible refine (HC.o _ HB.o).mono ?_);rintro e w2 ⟨rfl,g2⟩);go_ret;exact ⟨rfl,(HB.o.zf g2).bel⟩
 | true =>
  obtain ⟨k,rfl,hk⟩:=zZ hv;have hp:parM m k=arM m k:=by unfold parM;rw [hv];rfl
  rw [hp];rw [hv] at HC;have HAk:=hid (fun wx g=>HA.o wx g k hk);clear hv hp hk HA;go_enter func76,ntmps76;go_wp2_with fail;(with_reducible refine (HC.o _ HB.o).mono ?_);rintro e w2 ⟨rfl,g2⟩;have HB2:=hid (HB.o.zf g2);obtain ⟨x0,x1,x2,x3,x4,x5,_⟩:=HB2.o.box;clear HC HB g2;go_wp2_with fail;(with_reducible refine (HAk.o _ HB2.o).mono ?_);rintro e w3 ⟨rfl,g3⟩;have HB3:=hid (HB2.o.zf g3);clear x0 x1 x2 x3 x4 x5 g3 HB2;go_wp2_with fail;go_ret;exact ⟨rfl,HB3.o.bel⟩
theorem yG {Q:Nat->BP} (m:MdlD) (p:Ph) (v:Int) (w:World) (h:Mod Q w m p) (h0:riM m=(0,0,0)) (hvl:m.zc.length<=140737488355328) :
   Calls prog 77 #[ixV m p,.int .i64 v] w fun e w'=>e=.returned (.int .i64 (homeM m v))/\Bl w w':=by
 have HB:=hid (Mb.madeT h 93);have HC:=hid (fun wx (g:Mb m p w.heap.size w wx)=>yn m p v wx g.mod hvl);unfold ixV mdV at HC |-
 cases hv:hasV m v with
 | false =>
  have hp:homeM m v=-1:=by unfold homeM;rw [hv];rfl
  rw [hp];rw [hv] at HC;clear hv hp h;go_enter func77,ntmps77;go_wp2_with ((with_reducible refine (HC.o _ HB.o).mono ?_);rintro e w2 ⟨rfl,g2⟩);go_ret;exact ⟨rfl,(HB.o.zf g2).bel⟩
 | true =>
  obtain ⟨k,rfl,hk⟩:=zZ hv;have hp:homeM m k=rgM m k:=by unfold homeM;rw [hv];rfl
  rw [hp];rw [hv] at HC;have HV:=hid (fun wx (g:Mb m p w.heap.size w wx) (j:Nat) (hj:j<m.zc.length)=>g.mod.zc.get hj);have hcap:=h.zc.cap (by omega);have h1:(0:Int)<=(k:Int):=by omega
  have h2:(k:Int)<(m.zc.length:Int):=by omega
  have hE:rgM m k=if 0<=m.zc[k].ofv then (match m.zc[m.zc[k].ofv.toNat]? with | some y=>y.rg | none=>-1) else m.zc[k].rg:=by
    unfold rgM;rw [Int.toNat_natCast,List.getElem?_eq_getElem hk];rfl
  have HVk:=hid (fun wx (g:Mb m p w.heap.size w wx)=>HV.o wx g k hk)
  rcases js h0 hk with ⟨q1,s,hs,q2,q3,q4⟩ | ⟨q1,q5⟩
  . rw [if_pos q1,q2,Int.toNat_natCast,List.getElem?_eq_getElem hs] at hE
    have hE':rgM m k=m.zc[s].rg:=hE;rw [hE'];have HVs:=hid (fun wx (g:Mb m p w.heap.size w wx)=>HV.o wx g s hs);have h3:(0:Int)<=(s:Int):=by omega
    have h4:(s:Int)<(m.zc.length:Int):=by omega
    have d0:decide ((0:Int)<=(s:Int))=true:=by simp
    obtain ⟨x,hx⟩:∃ x,x=m.zc[k]:=⟨_,rfl⟩;obtain ⟨y,hy⟩:∃ y,y=m.zc[s]:=⟨_,rfl⟩;rw [<- hx] at HVk q2;rw [<- hy] at HVs |-;clear q3 q4 h hv hx hy hE hE' hk hs q1 HV h0 hp;go_enter func77,ntmps77;have HQ2:=hid q2;clear q2;go_wp2_with fail;(with_reducible refine (HC.o _ HB.o).mono ?_);rintro e w2 ⟨rfl,g2⟩;have HB2:=hid (HB.o.zf g2);obtain ⟨b1,o1,ha1,hb1,dv,_,r0,r1,r2,r3,_⟩:=HVk.o _ HB2.o;obtain ⟨b2,o2,ha2,hb2,dv2,_,s0,s1,s2,_⟩:=HVs.o _ HB2.o;obtain ⟨x0,x1,x2,x3,x4,x5,_⟩:=HB2.o.box;rw [ha1] at x4 ha2;simp only [Option.some.injEq,Addr.mk.injEq,and_true] at ha2;obtain ⟨rfl,rfl⟩:=ha2;rw [HQ2.o] at r3;clear HC HB g2 HVk HVs ha1 HQ2 r0 r1 r2 s0 s1 x0 x1 x2 x3 x5;go_wp2_with fail
    go_quiet (fail)
    go_wp2_with fail;go_ret;exact ⟨rfl,below_drewN HB2.o.bel nq⟩
  . rw [if_neg (by omega)] at hE
    rw [hE];have d0:decide (0<=m.zc[k].ofv)=false:=by simp;omega
    obtain ⟨x,hx⟩:∃ x,x=m.zc[k]:=⟨_,rfl⟩;rw [<- hx] at HVk d0 |-;clear q5 h hv hx hE hk q1 HV h0 hp;go_enter func77,ntmps77;go_wp2_with fail;(with_reducible refine (HC.o _ HB.o).mono ?_);rintro e w2 ⟨rfl,g2⟩;have HB2:=hid (HB.o.zf g2);obtain ⟨b1,o1,ha1,hb1,dv,_,r0,r1,r2,r3,_⟩:=HVk.o _ HB2.o;obtain ⟨x0,x1,x2,x3,x4,x5,_⟩:=HB2.o.box;rw [ha1] at x4;clear HC HB g2 HVk ha1 r0 r1 x0 x1 x2 x3 x5;go_wp2_with fail;go_ret;exact ⟨rfl,HB2.o.bel⟩
theorem zaO {α:Type} (f:α->Bool):∀ l:List α,(l.find? f).isSome=l.any f
 | []=>rfl
 | x :: t=>by
   rw [List.find?_cons,List.any_cons]
   cases f x
   . exact zaO f t
   . rfl
theorem zeI {m:MdlD} {x:Int} (f:Int->Bool) (h:x<0):(upsM m x).any f=false:=by rw [yT m h];rfl
theorem any_at {m:MdlD} (h0:riM m=(0,0,0)) {k:Nat} (hk:k<m.zc.length) (f:Int->Bool):(upsM m k).any f=(f k || (upsM m (arM m k)).any f):=by rw [ya h0 hk,List.any_cons]
theorem zd3 {m:MdlD} (h0:riM m=(0,0,0)) {k:Nat} (hk:k<m.zc.length):arM m k<0\/∃ j:Nat,arM m k=j/\j<m.zc.length:=by
 rcases qG h0 hk with e | ⟨s,hs,e,_⟩
 . exact .inl (by omega)
 . exact .inr ⟨s,e,hs⟩
theorem zd4 {m:MdlD} (h0:riM m=(0,0,0)) {k:Nat} (hk:k<m.zc.length):lenM m (arM m k)<lenM m (k:Int):=by
 rw [(yp h0 hk).1,(zR h0 hk).1];omega
theorem Mb.low {m:MdlD} {p:Ph} {w wx wy:World} (h:Mb m p w.heap.size w wx) (g:Below (w.heap.size+1) wx wy):Mb m p w.heap.size w wy :=
 ⟨h.bel.trans (g.mono (by omega)),h.mod.kept fun j=>⟨g.size,fun b hb hQ=>g.block b (by have:b<w.heap.size:=hQ;omega)⟩,h.box.zf g (by omega)⟩
theorem push_low {N:Nat} {T:TypeId} {w W':World} {v:Value} {l:List Int} {o:Obj} (hz:N<=w.heap.size) (ho:w.ownsRow N T 1 v l.length (nums l)) (hg:(w.alloc o).grownBy W' v.ownBlock):Below N w W' :=
 Below.grown ((Below.refl N w).alloc hz _) hg (by simp;omega) (fun j hj=>(ho.lt _ hj).1)
theorem zcj {Q:Nat->BP} (m:MdlD) (p:Ph) (v s:Int) (w:World) (h:Mod Q w m p) (h0:riM m=(0,0,0)) (hvl:m.zc.length<=140737488355328) (hrl:m.zb.length<=140737488355328) :
   Calls prog 71 #[ixV m p,.int .i64 v,.int .i64 s] w fun e w'=>e=.returned (.bool (underM m v s))/\Bl w w':=by
 have HB:=hid (Mb.madeT h 93);have HC:=hid (fun wx (g:Mb m p w.heap.size w wx)=>yn m p v wx g.mod hvl);have HS:=hid (fun wx (g:Mb m p w.heap.size w wx)=>zci m p s wx g.mod hvl);have HP:=hid (fun wx (g:Mb m p w.heap.size w wx) (x:Int)=>jD m p x wx g.mod h0 hvl hrl);have H0:=hid h0;unfold ixV mdV at HC HS HP |-;clear h h0
 cases hv:hasV m v with
 | false =>
  have hp:underM m v s=false:=by unfold underM;rw [hv];rfl
  rw [hp];rw [hv] at HC;clear hv hp HP HS;go_enter func71,ntmps71;go_wp2_with ((with_reducible refine (HC.o _ HB.o).mono ?_);rintro e w2 ⟨rfl,g2⟩);go_ret;exact ⟨rfl,(HB.o.zf g2).bel⟩
 | true =>
  obtain ⟨k,rfl,hk⟩:=zZ hv;rw [hv] at HC
  cases hs:Md.stM m s with
  | false =>
   have hp:underM m k s=false:=by unfold underM;rw [hs];simp
   rw [hp];rw [hs] at HS;clear hv hp HP hs;go_enter func71,ntmps71;go_wp2_with fail;(with_reducible refine (HC.o _ HB.o).mono ?_);rintro e w2 ⟨rfl,g2⟩;have HB2:=hid (HB.o.zf g2);obtain ⟨x0,x1,x2,x3,x4,x5,_⟩:=HB2.o.box;clear HC HB g2;go_wp2_with fail;(with_reducible refine (HS.o _ HB2.o).mono ?_);rintro e w3 ⟨rfl,g3⟩;go_wp2_with fail;go_ret;exact ⟨rfl,(HB2.o.zf g3).bel⟩
  | true =>
   have hE:Hid (underM m k s=(upsM m (arM m k)).any fun x=>x == s):=hid (by
     obtain ⟨t,ht,rfl,_⟩:=st_in hs;unfold underM;rw [hv,hs,zE ht,zaO];rfl)
   have hK:=hid hk;have hp1:Hid (parM m k=arM m k):=hid (by unfold parM;rw [hv];rfl);rw [hs] at HS;clear hv hs hk;go_enter func71,ntmps71;go_wp2_with fail;(with_reducible refine (HC.o _ HB.o).mono ?_);rintro e w2 ⟨rfl,g2⟩;have HB2:=hid (HB.o.zf g2);obtain ⟨x0,x1,x2,x3,x4,x5,_⟩:=HB2.o.box;clear HC HB g2;go_wp2_with fail;(with_reducible refine (HS.o _ HB2.o).mono ?_);rintro e w3 ⟨rfl,g3⟩;have HB3:=hid (HB2.o.zf g3);clear x0 x1 x2 x3 x4 x5 g3 HB2 HS;obtain ⟨x0,x1,x2,x3,x4,x5,_⟩:=HB3.o.box;go_wp2_with fail;(with_reducible refine (HP.o _ HB3.o _).mono ?_);rintro e w4 ⟨rfl,g4⟩;have HB4:=hid (HB3.o.zf g4);rw [hp1.o];clear x0 x1 x2 x3 x4 x5 g4 HB3;go_wp2_with fail
   go_loopw [7] (fun a wr=>∃ x:Int,a=.int .i64 x/\(x<0\/∃ j:Nat,x=j/\j<m.zc.length)/\Mb m p w.heap.size w wr/\Hid (underM m k s=(upsM m x).any fun x=>x == s)) (fun a _=>lenM m (intOf a))
   case atStart=>exact ⟨_,rfl,zd3 H0.o hK.out,HB4.o,hE⟩
   case round =>
    obtain ⟨wo,rfl⟩:=ex1 wr;obtain ⟨x,rfl,hx,hb,hF⟩:=hrel;have HB5:=hid hb;clear hb HB4 hE
    rcases hx with hx | ⟨j,rfl,hj⟩
    . have d1:decide (0<=x)=false:=by simpa using hx
      have hR:Hid (underM m k s=false):=hid (by rw [hF.o];exact zeI _ hx);clear hF;go_wp2_with fail;go_ret;exact ⟨by rw [hR.o];rfl,HB5.o.bel⟩
    . have d1:decide ((0:Int)<=(j:Int))=true:=by simp
      have hF2:=hF.o;rw [any_at H0.o hj] at hF2
      cases d2:((j:Int) == s) with
      | true =>
       have hR:Hid (underM m k s=true):=hid (by rw [hF2,d2];rfl);clear hF hF2;go_wp2_with fail;go_ret;exact ⟨by rw [hR.o];rfl,HB5.o.bel⟩
      | false =>
       have hR:Hid (underM m k s=(upsM m (arM m j)).any fun x=>x == s):=hid (by rw [hF2,d2];rfl);have hp2:Hid (parM m j=arM m j):=hid (by unfold parM;rw [zE hj];rfl);have hD:Hid (lenM m (arM m j)<lenM m (j:Int)):=hid (zd4 H0.o hj);have hJ:=hid hj;obtain ⟨x0,x1,x2,x3,x4,x5,_⟩:=HB5.o.box;clear hF hF2 hj;go_wp2_with fail;(with_reducible refine (HP.o _ HB5.o _).mono ?_);rintro e w6 ⟨rfl,g6⟩;rw [hp2.o];have HB6:=hid (HB5.o.zf g6);clear x0 x1 x2 x3 x4 x5 g6;go_wp2_with fail;go_roundw
       case rel=>exact ⟨_,rfl,zd3 H0.o hJ.o,HB6.o,hR⟩
       case measure=>exact hD.o
theorem kE {Q:Nat->BP} (m:MdlD) (p:Ph) (v s:Int) (w:World) (h:Mod Q w m p) (h0:riM m=(0,0,0)) (hvl:m.zc.length<=140737488355328) (hrl:m.zb.length<=140737488355328) :
   Calls prog 70 #[ixV m p,.int .i64 v,.int .i64 s] w fun e w'=>e=.returned (.bool (inM m v s))/\Bl w w':=by
 have HB:=hid (Mb.madeT h 93);have HC:=hid (fun wx (g:Mb m p w.heap.size w wx)=>yn m p v wx g.mod hvl);have HS:=hid (fun wx (g:Mb m p w.heap.size w wx)=>zbb m p s wx g.mod hrl);have HP:=hid (fun wx (g:Mb m p w.heap.size w wx) (x:Int)=>jD m p x wx g.mod h0 hvl hrl);have HH:=hid (fun wx (g:Mb m p w.heap.size w wx) (x:Int)=>yG m p x wx g.mod h0 hvl);have H0:=hid h0;unfold ixV mdV at HC HS HP HH |-;clear h h0
 cases hv:hasV m v with
 | false =>
  have hp:inM m v s=false:=by unfold inM;rw [hv];rfl
  rw [hp];rw [hv] at HC;clear hv hp HP HS HH;go_enter func70,ntmps70;go_wp2_with ((with_reducible refine (HC.o _ HB.o).mono ?_);rintro e w2 ⟨rfl,g2⟩);go_ret;exact ⟨rfl,(HB.o.zf g2).bel⟩
 | true =>
  obtain ⟨k,rfl,hk⟩:=zZ hv;rw [hv] at HC
  cases hs:hasR m s with
  | false =>
   have hp:inM m k s=false:=by
     cases hi:inM m k s with
     | false=>rfl
     | true=>rw [zaH H0.o hi] at hs;cases hs
   rw [hp];rw [hs] at HS;clear hv hp HP hs HH;go_enter func70,ntmps70;go_wp2_with fail;(with_reducible refine (HC.o _ HB.o).mono ?_);rintro e w2 ⟨rfl,g2⟩;have HB2:=hid (HB.o.zf g2);obtain ⟨x0,x1,x2,x3,x4,x5,_⟩:=HB2.o.box;clear HC HB g2;go_wp2_with fail;(with_reducible refine (HS.o _ HB2.o).mono ?_);rintro e w3 ⟨rfl,g3⟩;go_wp2_with fail;go_ret;exact ⟨rfl,(HB2.o.zf g3).bel⟩
  | true =>
   have hE:Hid (inM m k s=(upsM m k).any fun x=>rgM m x == s):=hid (by
     unfold inM;rw [hv,zaO];rfl)
   have hK:=hid hk;rw [hs] at HS;clear hv hs hk;go_enter func70,ntmps70;go_wp2_with fail;(with_reducible refine (HC.o _ HB.o).mono ?_);rintro e w2 ⟨rfl,g2⟩;have HB2:=hid (HB.o.zf g2);obtain ⟨x0,x1,x2,x3,x4,x5,_⟩:=HB2.o.box;clear HC HB g2;go_wp2_with fail;(with_reducible refine (HS.o _ HB2.o).mono ?_);rintro e w3 ⟨rfl,g3⟩;have HB3:=hid (HB2.o.zf g3);clear x0 x1 x2 x3 x4 x5 g3 HB2 HS;go_wp2_with fail
   go_loopw [7] (fun a wr=>∃ x:Int,a=.int .i64 x/\(x<0\/∃ j:Nat,x=j/\j<m.zc.length)/\Mb m p w.heap.size w wr/\Hid (inM m k s=(upsM m x).any fun x=>rgM m x == s)) (fun a _=>lenM m (intOf a))
   case atStart=>exact ⟨_,rfl,.inr ⟨k,rfl,hK.out⟩,HB3.o,hE⟩
   case round =>
    obtain ⟨wo,rfl⟩:=ex1 wr;obtain ⟨x,rfl,hx,hb,hF⟩:=hrel;have HB5:=hid hb;clear hb HB3 hE
    rcases hx with hx | ⟨j,rfl,hj⟩
    . have d1:decide (0<=x)=false:=by simpa using hx
      have hR:Hid (inM m k s=false):=hid (by rw [hF.o];exact zeI _ hx);clear hF;go_wp2_with fail;go_ret;exact ⟨by rw [hR.o];rfl,HB5.o.bel⟩
    . have d1:decide ((0:Int)<=(j:Int))=true:=by simp
      have hF2:=hF.o;rw [any_at H0.o hj] at hF2;have hh:Hid (homeM m j=rgM m j):=hid (by unfold homeM;rw [zE hj];rfl);have hp2:Hid (parM m j=arM m j):=hid (by unfold parM;rw [zE hj];rfl);have hD:Hid (lenM m (arM m j)<lenM m (j:Int)):=hid (zd4 H0.o hj);have hJ:=hid hj;obtain ⟨x0,x1,x2,x3,x4,x5,_⟩:=HB5.o.box;obtain ⟨y,hy⟩:=ex2 (rgM m j);rw [hy] at hh hF2;clear hj hF hy
      cases d2:(y == s) with
      | true =>
       have hR:Hid (inM m k s=true):=hid (by rw [hF2,d2];rfl);clear hF2;go_wp2_with fail;(with_reducible refine (HH.o _ HB5.o _).mono ?_);rintro e w6 ⟨rfl,g6⟩;rw [hh.o];go_wp2_with fail;go_ret;exact ⟨by rw [hR.o];rfl,(HB5.o.zf g6).bel⟩
      | false =>
       have hR:Hid (inM m k s=(upsM m (arM m j)).any fun x=>rgM m x == s):=hid (by rw [hF2,d2];rfl);clear hF2;go_wp2_with fail;(with_reducible refine (HH.o _ HB5.o _).mono ?_);rintro e w6 ⟨rfl,g6⟩;rw [hh.o];have HB6:=hid (HB5.o.zf g6);clear x0 x1 x2 x3 x4 x5 g6;obtain ⟨x0,x1,x2,x3,x4,x5,_⟩:=HB6.o.box;go_wp2_with fail;(with_reducible refine (HP.o _ HB6.o _).mono ?_);rintro e w7 ⟨rfl,g7⟩;rw [hp2.o];have HB7:=hid (HB6.o.zf g7);clear x0 x1 x2 x3 x4 x5 g7;go_wp2_with fail;go_roundw
       case rel=>exact ⟨_,rfl,zd3 H0.o hJ.o,HB7.o,hR⟩
       case measure=>exact hD.o
theorem Mod.ownC {Q:Nat->BP} {w:World} {m:MdlD} {p:Ph} (h:Mod Q w m p) {k:Nat} (hk:k<m.zb.length):∃ b o,p.a3=some ⟨b,o,none⟩/\b<w.heap.size/\w.cell? ⟨b,o+k * 2+1,none⟩=some (.int .i64 m.zb[k].own):=by
 obtain ⟨b,o,e,hb,_,h1⟩:=h.zb.get hk;exact ⟨b,o,e,hb,h1⟩
theorem qq {Q:Nat->BP} (m:MdlD) (p:Ph) (s:Int) (w:World) (h:Mod Q w m p) (hrl:m.zb.length<=100000) :
   Calls prog 72 #[ixV m p,.int .i64 s] w (RowP (ownM m s) w):=by
 have HB:=hid (Mb.madeT h 93);have HV:=hid (fun wx (g:Mb m p w.heap.size w wx) (j:Nat) (hj:j<m.zb.length)=>g.mod.ownC hj);have hcap:=hid (fun h0=>h.zb.cap h0);obtain ⟨iI,hiI,zI0,zI1,zI2⟩:=info_parts zS;have HL:Hid (ownM m s=sel (isOwn s) (m.zb.take m.zb.length)):=hid (by rw [List.take_length];rfl);have HT:=hid (fun (k:Nat) (h:k<m.zb.length)=>ym (isOwn s) (l:=m.zb) h);have HZ:=hid (zbt (isOwn s) m.zb);have HN:=hid (fun k=>zV (isOwn s) (m.zb.take k));unfold ixV mdV;clear h;go_enter func72,ntmps72;go_wp2_with fail
 go_loopw [5,6] (fun o i wr=>∃ k:Nat,k<=m.zb.length/\i=.int .i64 k/\Mb m p w.heap.size w wr/\wr.ownsRow (w.heap.size+1) 3 1 o (sel (isOwn s) (m.zb.take k)).length (nums (sel (isOwn s) (m.zb.take k)))) (fun _ i _=>m.zb.length - (intOf i).toNat)
 case atStart=>exact ⟨0,by omega,rfl,HB.o,by rw [HZ.o];exact World.ownsRow_nil _ _ _ _⟩
 case round =>
  obtain ⟨wo,rfl⟩:=ex1 wr;obtain ⟨k,hk,rfl,hb,ho⟩:=hrel;have HB5:=hid hb;have HO:=hid ho;clear hb HB HZ ho;obtain ⟨x0,x1,x2,x3,x4,x5,_⟩:=HB5.o.box
  by_cases hlt:k<m.zb.length
  . have hI:(k:Int)<(m.zb.length:Int):=by omega
    have hI0:(0:Int)<=(k:Int):=by omega
    obtain ⟨b1,o1,ha1,hb1,r1⟩:=HV.o wo HB5.o k hlt;have hcp:=hcap.o (by omega);have hS:=HT.o k hlt;obtain ⟨x,hx⟩:∃ x,x=m.zb[k]:=⟨_,rfl⟩;rw [<- hx] at hS r1;have hln:=HN.o k;have hln2:(sel (isOwn s) (m.zb.take k)).length<=k:=by rw [List.length_take] at hln;omega
    have hz5:w.heap.size+1<=wo.heap.size:=HB5.o.box.sl;rw [ha1] at x3;clear HV HT HN hx hln ha1
    cases hd:(x.own == s) with
    | false =>
     have hS2:Hid (sel (isOwn s) (m.zb.take (k+1))=sel (isOwn s) (m.zb.take k)):=hid (by rw [hS];unfold isOwn;rw [hd];simp);clear hS hcap;go_wp2_with fail;go_roundw
     case rel=>exact ⟨k+1,by omega,by go_num,HB5.o,by rw [hS2.o];exact HO.o⟩
     case measure=>simp [intOf] <;> omega
    | true =>
     have hS2:Hid (sel (isOwn s) (m.zb.take (k+1))=sel (isOwn s) (m.zb.take k) ++ [(k:Int)]):=hid (by rw [hS];unfold isOwn;rw [hd];simp);clear hS hcap;go_wp2_with (at_builtin;refine zn _ rfl _ _ 31 rfl 3 (w.heap.size+1) iI (.int .i64 0) underlying31 hiI zI0 zI1 zI2 rfl _ (sel (isOwn s) (m.zb.take k)) rfl (HO.o.alloc _) _ [(k:Int)] rfl (row1 _ _ _) (by simp;omega) (by simp;omega) ?_;intro v4 w4 hown4 hgrow4 hnxt4);have HB6:=hid (HB5.o.low (push_low hz5 HO.o hgrow4));go_roundw
     case rel=>exact ⟨k+1,by omega,by go_num,HB6.o,by rw [hS2.o];exact hown4⟩
     case measure=>simp [intOf] <;> omega
  . obtain rfl:k=m.zb.length:=by omega
    clear HV HT HN hcap;rw [<- HL.o] at HO;go_wp2_with fail;go_ret;exact ⟨_,rfl,HO.o.mono (by omega),HB5.o.bel⟩
end Go.Proofs
