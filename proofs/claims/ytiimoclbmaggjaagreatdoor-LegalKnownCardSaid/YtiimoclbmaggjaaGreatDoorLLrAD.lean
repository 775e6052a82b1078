/- Walks: the document's sets: Of, Vertex, row, Fits. -/
import Derived.Test.YtiimoclbmaggjaaGreatDoorLLgAE
import Derived.Test.YtiimoclbmaggjaaGreatDoorLRyCE
namespace Go.Proofs
open Go.RowKit Go.Lx Go.Md Go.Shelf Go.BigFrame Go.Rgi
set_option linter.unusedVariables false
def stV (m:MdlD) (p:Ph):Value:=.agg #[.string m.nm,.slice p.a1 m.vars.length p.c1,.slice p.a2 m.evs.length p.c2,.slice p.a3 m.regs.length p.c3,.slice p.a4 m.vers.length p.c4,.slice p.a5 m.trns.length p.c5,.string m.nm,.slice p.a1 m.vars.length p.c1,.slice p.a2 m.evs.length p.c2,.slice p.a3 m.regs.length p.c3,.slice p.a4 m.vers.length p.c4,.slice p.a5 m.trns.length p.c5]
structure Sb (m:MdlD) (p:Ph) (H:Nat) (w wx:World):Prop where
 mb:Mb m p H w wx
 y:wx.cell? ⟨H,6,none⟩=some (.string m.nm)∧wx.cell? ⟨H,7,none⟩=some (.slice p.a1 m.vars.length p.c1)∧wx.cell? ⟨H,8,none⟩=some (.slice p.a2 m.evs.length p.c2)∧wx.cell? ⟨H,9,none⟩=some (.slice p.a3 m.regs.length p.c3)∧wx.cell? ⟨H,10,none⟩=some (.slice p.a4 m.vers.length p.c4)∧wx.cell? ⟨H,11,none⟩=some (.slice p.a5 m.trns.length p.c5)
theorem Sb.below {m:MdlD} {p:Ph} {H:Nat} {w wx wy:World} (h:Sb m p H w wx) (g:Below wx.heap.size wx wy):Sb m p H w wy:=by
 obtain ⟨y0,y1,y2,y3,y4,y5⟩:=h.y
 have hl:=h.mb.box.sl
 exact ⟨h.mb.below g,(g.cell (p:=⟨H,6,none⟩) hl).trans y0,(g.cell (p:=⟨H,7,none⟩) hl).trans y1,(g.cell (p:=⟨H,8,none⟩) hl).trans y2,(g.cell (p:=⟨H,9,none⟩) hl).trans y3,(g.cell (p:=⟨H,10,none⟩) hl).trans y4,(g.cell (p:=⟨H,11,none⟩) hl).trans y5⟩
theorem Sb.made {Q:Nat→BP} {m:MdlD} {p:Ph} {w:World} (h:Mod Q w m p):Sb m p w.heap.size w (w.alloc (.cells #[.string m.nm,.slice p.a1 m.vars.length p.c1,.slice p.a2 m.evs.length p.c2,.slice p.a3 m.regs.length p.c3,.slice p.a4 m.vers.length p.c4,.slice p.a5 m.trns.length p.c5,.string m.nm,.slice p.a1 m.vars.length p.c1,.slice p.a2 m.evs.length p.c2,.slice p.a3 m.regs.length p.c3,.slice p.a4 m.vers.length p.c4,.slice p.a5 m.trns.length p.c5] 168)):=by
 refine ⟨⟨below_al1 w _,(h.weaken fun _ _ h _=>h).below (below_al1 w _),?_⟩,?_⟩
 · constructor <;> simp
 · simp
set_option maxRecDepth 100000 in
set_option maxHeartbeats 2000000 in
theorem sof_any (m:MdlD) (p:Ph) (w:World):Calls Tryz.prog 125 #[mdV m p] w fun e w'=>e=.returned (stV m p)∧Below w.heap.size w w':=by
 unfold mdV stV
 go_enter Tryz.func125,Tryz.ntmps125
 go_wp2_with fail
 refine bodyPost_ret (v:=.agg #[.string m.nm,.slice p.a1 m.vars.length p.c1,.slice p.a2 m.evs.length p.c2,.slice p.a3 m.regs.length p.c3,.slice p.a4 m.vers.length p.c4,.slice p.a5 m.trns.length p.c5,.string m.nm,.slice p.a1 m.vars.length p.c1,.slice p.a2 m.evs.length p.c2,.slice p.a3 m.regs.length p.c3,.slice p.a4 m.vers.length p.c4,.slice p.a5 m.trns.length p.c5]) (by simp [results,Tryz.results125,go_sem]) rfl ⟨rfl,below_al2 w _ _⟩
set_option maxRecDepth 100000 in
set_option maxHeartbeats 2000000 in
theorem svertex_any {Q:Nat→BP} (m:MdlD) (p:Ph) (v:Int) (w:World) (h:Mod Q w m p) (hvl:m.vers.length≤100000) :
   Calls Tryz.prog 217 #[stV m p,.int .i64 v] w fun e w'=>e=.returned (.bool (stands m v))∧Below w.heap.size w w':=by
 have HB:=Lib.hid (Sb.made h)
 unfold stV
 cases hv:hasV m v with
 | false =>
  have hp:stands m v=false:=by unfold stands;rw [hv];rfl
  rw [hp]
  unfold hasV at hv
  clear h hp
  by_cases h1:0≤v
  · have h2:¬ (v<m.vers.length):=by simp [h1] at hv;omega
    clear hv
    go_enter Tryz.func217,Tryz.ntmps217
    go_wp2_with fail
    go_ret
    exact ⟨rfl,below_al1 w _⟩
  · clear hv
    go_enter Tryz.func217,Tryz.ntmps217
    go_wp2_with fail
    go_ret
    exact ⟨rfl,below_al1 w _⟩
 | true =>
  obtain ⟨k,rfl,hk⟩:=hasV_yes hv
  rw [stands_at hk]
  obtain ⟨b2,o2,ea,hb2,dv,hdv,r0,r1,_⟩:=h.vers.get hk
  have hcap:=h.vers.cap (by omega)
  obtain ⟨x,hx⟩:∃ x,m.vers[k].kd=x:=⟨_,rfl⟩
  rw [hx] at r1 ⊢
  rw [ea]
  have h1:(0:Int)≤(k:Int):=by omega
  have h2:(k:Int)<(m.vers.length:Int):=by omega
  clear h hv ea hdv r0 hx HB
  cases d1:(x == 1) with
  | true =>
   have e1:((x:Int) == 1)=true:=by simp at d1 ⊢;omega
   go_enter Tryz.func217,Tryz.ntmps217
   go_wp2_with fail
   go_ret
   exact ⟨rfl,below_al1 w _⟩
  | false =>
   have e1:((x:Int) == 1)=false:=by simp at d1 ⊢;omega
   cases d2:(x == 2) with
   | true =>
    have e2:((x:Int) == 2)=true:=by simp at d2 ⊢;omega
    go_enter Tryz.func217,Tryz.ntmps217
    go_wp2_with fail
    go_ret
    exact ⟨rfl,below_al1 w _⟩
   | false =>
    have e2:((x:Int) == 2)=false:=by simp at d2 ⊢;omega
    go_enter Tryz.func217,Tryz.ntmps217
    go_wp2_with fail
    go_ret
    exact ⟨rfl,below_al1 w _⟩
theorem ofKd_stands (m:MdlD) (v:Int):ofKd m [1,2] v=stands m v:=by
 unfold ofKd
 cases hb:hasV m v with
 | false=>unfold stands;rw [hb];rfl
 | true =>
  obtain ⟨k,rfl,hk⟩:=hasV_nat hb
  rw [stands_at hk,kdA_at hk]
  unfold hasN;simp
theorem may_home {m:MdlD} (h0:riM m=(0,0,0)) {v r:Int} (hv:v≠-1):mayM m v r=(stands m v && homeM m v == r):=by
 rw [may_split h0 hv,ofKd_stands]
set_option maxRecDepth 100000 in
set_option maxHeartbeats 4000000 in
theorem srow_any {Q:Nat→BP} (m:MdlD) (p:Ph) (l:List Int) (lv:Value) (w:World) (h:Mod Q w m p) (h0:riM m=(0,0,0)) (hr:RowIn w lv l) (hl:l.length≤1000000) (hvl:m.vers.length≤100000) (hrl:m.regs.length≤100000) :
   Calls Tryz.prog 216 #[stV m p,lv] w fun e w'=>e=.returned (.bool (fit1 m l))∧Below w.heap.size w w':=by
 have HB:=Lib.hid (Sb.made h)
 have HV:=Lib.hid (fun wx (g:Sb m p w.heap.size w wx) (v:Int)=>svertex_any m p v wx g.mb.mod hvl)
 have HGr:=Lib.hid (fun wx (g:Sb m p w.heap.size w wx) (v:Int)=>rhome16_any m p v wx g.mb.mod h0 (by omega))
 have HR:=Lib.hid (fun (wx:World) (g:Below w.heap.size w wx)=>(hr.below g).len)
 have MH:=Lib.hid (fun (v r:Int) (hv:v≠-1)=>may_home h0 (r:=r) hv)
 obtain ⟨a,c,rfl,hc,_⟩:=hr.len
 unfold ixV at HGr
 unfold stV mdV at *
 clear h h0 hr
 by_cases hn:l.length=m.regs.length
 · have hd:((l.length:Int) != (m.regs.length:Int))=false:=by simp only [bne_eq_false_iff_eq];omega
   have HFit:=Lib.hid (fun hh=>fit1_all (m:=m) (l:=l) hn hh)
   obtain ⟨n,hn2⟩:∃ n,l.length=n:=⟨_,rfl⟩
   have HN:=Lib.hid hn2
   rw [hn2] at hl hc hd ⊢
   clear hn hn2
   go_enter Tryz.func216,Tryz.ntmps216
   obtain ⟨x0,x1,x2,x3,x4,x5,_⟩:=HB.out.mb.box
   go_wp2_with fail
   clear x0 x1 x2 x3 x4 x5
   go_loopw [5] (fun i wr=>∃ k:Nat,k≤n∧i=.int .i64 k∧Sb m p w.heap.size w wr∧∀ j,j<k→mayM m (l.getD j (-1)) j=true) (fun i _=>n - (intOf i).toNat)
   case atStart=>exact ⟨0,by omega,rfl,HB.out,fun j hj=>by omega⟩
   case round =>
    obtain ⟨wo,rfl⟩:∃ wo:World,wo=wr:=⟨_,rfl⟩
    obtain ⟨k,hk,rfl,hb,hno⟩:=hrel
    have HBo:=Lib.hid hb
    have HNo:=Lib.hid hno
    clear hb hno HB
    by_cases hlt:k<n
    · have hkl:k<l.length:=by rw [HN.out];exact hlt
      obtain ⟨a',c',e,_,q⟩:=HR.out wo HBo.out.mb.bel
      obtain ⟨b1,o1,ea,hbl1,hc1⟩:=q k hkl
      simp only [Value.slice.injEq] at e
      obtain ⟨rfl,e',rfl⟩:=e
      clear e'
      subst ea
      have hI:(k:Int)<(n:Int):=by omega
      have hI0:(0:Int)≤(k:Int):=by omega
      have hg:l.getD k (-1)=l[k]'hkl:=by rw [List.getD_eq_getElem?_getD,List.getElem?_eq_getElem hkl];rfl
      have HS:Hid (∀ b,mayM m (l.getD k (-1)) k=b→(b=true→∀ j,j<k+1→mayM m (l.getD j (-1)) j=true)∧(b=false→fit1 m l=false)):=fun b hb=>⟨fun ht j hj=>by
        by_cases e:j=k
        · subst e;rw [hb,ht]
        · exact HNo.out j (by omega),fun hf=>fit1_row hkl (by rw [hb,hf])⟩
      rw [hg] at HS
      obtain ⟨y,hy⟩:∃ y,l[k]'hkl=y:=⟨_,rfl⟩
      rw [hy] at hc1 HS
      have HC0:=Lib.hid (fun wx (g:Below wo.heap.size wo wx)=>HV.out wx (HBo.out.below g) y)
      have HG0:=Lib.hid (fun wx (g:Below wo.heap.size wo wx)=>HGr.out wx (HBo.out.below g) y)
      have HX:Hid (∀ W',Below wo.heap.size wo W'→(W'.cell? ⟨w.heap.size,0,none⟩=some (.string m.nm)∧W'.cell? ⟨w.heap.size,1,none⟩=some (.slice p.a1 m.vars.length p.c1)∧W'.cell? ⟨w.heap.size,2,none⟩=some (.slice p.a2 m.evs.length p.c2)∧W'.cell? ⟨w.heap.size,3,none⟩=some (.slice p.a3 m.regs.length p.c3)∧W'.cell? ⟨w.heap.size,4,none⟩=some (.slice p.a4 m.vers.length p.c4)∧W'.cell? ⟨w.heap.size,5,none⟩=some (.slice p.a5 m.trns.length p.c5))∧(W'.cell? ⟨w.heap.size,6,none⟩=some (.string m.nm)∧W'.cell? ⟨w.heap.size,7,none⟩=some (.slice p.a1 m.vars.length p.c1)∧W'.cell? ⟨w.heap.size,8,none⟩=some (.slice p.a2 m.evs.length p.c2)∧W'.cell? ⟨w.heap.size,9,none⟩=some (.slice p.a3 m.regs.length p.c3)∧W'.cell? ⟨w.heap.size,10,none⟩=some (.slice p.a4 m.vers.length p.c4)∧W'.cell? ⟨w.heap.size,11,none⟩=some (.slice p.a5 m.trns.length p.c5))∧W'.cell? ⟨b1,o1+k,none⟩=some (.int .i64 y)):=Lib.hid fun W' g=>by
        have hh:=HBo.out.below g
        obtain ⟨x0,x1,x2,x3,x4,x5,_⟩:=hh.mb.box
        exact ⟨⟨x0,x1,x2,x3,x4,x5⟩,hh.y,(g.cell (p:=⟨b1,o1+k,none⟩) hbl1).trans hc1⟩
      have hB0:Below wo.heap.size wo wo:=Below.refl _ _
      clear q hg hy HV HGr HR HNo HFit
      by_cases hy1:y=-1
      · have hd1:(y != -1)=false:=by rw [hy1];rfl
        have hT:=Lib.hid ((HS.out true (by rw [hy1];exact may_none m _)).1 rfl)
        clear HS HC0 HG0 MH hy1
        obtain ⟨x0,x1,x2,x3,x4,x5,_⟩:=HBo.out.mb.box
        go_wp2_with fail
        go_quiet (fail)
        go_wp2_with fail
        go_roundw
        case rel=>exact ⟨k+1,by omega,by go_num,HBo.out.below (below_drewN hB0 _),hT.out⟩
        case measure=>simp [intOf] <;> omega
      · have hd1:(y != -1)=true:=by simp only [bne_iff_ne,ne_eq];exact hy1
        have hM2:=MH.out y k hy1
        obtain ⟨st,hst⟩:∃ b,stands m y=b:=⟨_,rfl⟩
        obtain ⟨hm,hhm⟩:∃ b,homeM m y=b:=⟨_,rfl⟩
        rw [hst,hhm] at hM2
        have HC:Hid (∀ wx,Below wo.heap.size wo wx→Calls Tryz.prog 217 #[.agg #[.string m.nm,.slice p.a1 m.vars.length p.c1,.slice p.a2 m.evs.length p.c2,.slice p.a3 m.regs.length p.c3,.slice p.a4 m.vers.length p.c4,.slice p.a5 m.trns.length p.c5,.string m.nm,.slice p.a1 m.vars.length p.c1,.slice p.a2 m.evs.length p.c2,.slice p.a3 m.regs.length p.c3,.slice p.a4 m.vers.length p.c4,.slice p.a5 m.trns.length p.c5],.int .i64 y] wx fun e w'=>e=.returned (.bool st)∧Below wx.heap.size wx w'):=Lib.hid (by rw [← hst];exact HC0.out)
        have HG:Hid (∀ wx,Below wo.heap.size wo wx→Calls Tryz.prog 77 #[.agg #[.string m.nm,.slice p.a1 m.vars.length p.c1,.slice p.a2 m.evs.length p.c2,.slice p.a3 m.regs.length p.c3,.slice p.a4 m.vers.length p.c4,.slice p.a5 m.trns.length p.c5],.int .i64 y] wx fun e w'=>e=.returned (.int .i64 hm)∧Below wx.heap.size wx w'):=Lib.hid (by rw [← hhm];exact HG0.out)
        have HS1:=HX
        clear hst hhm HC0 HG0 MH hy1 HX
        cases st with
        | false =>
         have hF:=Lib.hid ((HS.out false (by rw [hM2];rfl)).2 rfl)
         clear HS hM2 HG
         go_wp2_with fail
         refine wp_region_any (by kernel_rfl) ?_
         change wpAny _ _ _ _ _ _ _ (World.drew _)
         refine wpAny_of_heldS (S:=(fun W'=>(W'.cell? ⟨w.heap.size,0,none⟩=some (.string m.nm)∧W'.cell? ⟨w.heap.size,1,none⟩=some (.slice p.a1 m.vars.length p.c1)∧W'.cell? ⟨w.heap.size,2,none⟩=some (.slice p.a2 m.evs.length p.c2)∧W'.cell? ⟨w.heap.size,3,none⟩=some (.slice p.a3 m.regs.length p.c3)∧W'.cell? ⟨w.heap.size,4,none⟩=some (.slice p.a4 m.vers.length p.c4)∧W'.cell? ⟨w.heap.size,5,none⟩=some (.slice p.a5 m.trns.length p.c5))∧(W'.cell? ⟨w.heap.size,6,none⟩=some (.string m.nm)∧W'.cell? ⟨w.heap.size,7,none⟩=some (.slice p.a1 m.vars.length p.c1)∧W'.cell? ⟨w.heap.size,8,none⟩=some (.slice p.a2 m.evs.length p.c2)∧W'.cell? ⟨w.heap.size,9,none⟩=some (.slice p.a3 m.regs.length p.c3)∧W'.cell? ⟨w.heap.size,10,none⟩=some (.slice p.a4 m.vers.length p.c4)∧W'.cell? ⟨w.heap.size,11,none⟩=some (.slice p.a5 m.trns.length p.c5))∧W'.cell? ⟨b1,o1+k,none⟩=some (.int .i64 y))) ?_ (fun hHeld=>?_)
         · (try dsimp only) <;> (first | exact HS1.out _ (by assumption) | exact HS1.out _ hB0.drew)
         refine tk 0 rfl ?_
         try simp only [Act.put,lyA,lyZ,lyS]
         refine tk 1 rfl ?_
         try simp only [Act.put,lyA,lyZ,lyS]
         refine tk 2 rfl ?_
         try simp only [Act.put,lyA,lyZ,lyS]
         refine tk 3 rfl ?_
         try simp only [Act.put,lyA,lyZ,lyS]
         refine tk 4 rfl ?_
         try simp only [Act.put,lyA,lyZ,lyS]
         refine tk 5 rfl ?_
         try simp only [Act.put,lyA,lyZ,lyS]
         refine tk 6 rfl ?_
         try simp only [Act.put,lyA,lyZ,lyS]
         refine tk 7 rfl ?_
         try simp only [Act.put,lyA,lyZ,lyS]
         refine tk 8 rfl ?_
         try simp only [Act.put,lyA,lyZ,lyS]
         refine tk 9 rfl ?_
         try simp only [Act.put,lyA,lyZ,lyS]
         refine tk 10 rfl ?_
         try simp only [Act.put,lyA,lyZ,lyS]
         refine rdy [11] ?_
         refine rdC rfl (fun K hK=>?_) ?_
         (go_simp;(with_reducible refine (HC.out _ hB0.drew).mono ?_);rintro e w3 ⟨rfl,hb3⟩;have hB3:=hB0.drew.trans hb3;go_wp2_with fail)
         refine hK.out _ _ ?_ (fun hH1=>?_)
         · (try dsimp only) <;> (first | exact HS1.out _ (by assumption) | exact HS1.out _ hB0.drew)
         clear hK K hHeld
         try simp only [Act.put,lyA,lyZ,lyS]
         refine tk 12 rfl ?_
         try simp only [Act.put,lyA,lyZ,lyS]
         refine tk 13 rfl ?_
         try simp only [Act.put,lyA,lyZ,lyS]
         refine tkP 14 rfl ?_
         try simp only [Act.put,lyA,lyZ,lyS]
         refine tkP 15 rfl ?_
         try simp only [Act.put,lyA,lyZ,lyS]
         refine tkP 16 rfl ?_
         try simp only [Act.put,lyA,lyZ,lyS]
         refine tkP 17 rfl ?_
         try simp only [Act.put,lyA,lyZ,lyS]
         refine tkP 18 rfl ?_
         try simp only [Act.put,lyA,lyZ,lyS]
         refine tkP 19 rfl ?_
         try simp only [Act.put,lyA,lyZ,lyS]
         refine tkP 20 rfl ?_
         try simp only [Act.put,lyA,lyZ,lyS]
         refine tkP 21 rfl ?_
         try simp only [Act.put,lyA,lyZ,lyS]
         refine tkP 22 rfl ?_
         try simp only [Act.put,lyA,lyZ,lyS]
         refine tk 23 rfl ?_
         try simp only [Act.put,lyA,lyZ,lyS]
         refine tk 24 rfl ?_
         try simp only [Act.put,lyA,lyZ,lyS]
         refine wpAnyH_done (by kernel_rfl) ?_ _
         rotate_left
         exact AllReadyH.nil
         all_goals
           go_wp2_with fail
           go_ret
           exact ⟨by rw [hF.out];rfl,(HBo.out.below hB3).mb.bel⟩
        | true =>
         rw [Bool.true_and] at hM2
         cases hq:(hm == (k:Int)) with
         | true =>
          have hq':(hm != (k:Int))=false:=by simp only [bne,hq];rfl
          have hT:=Lib.hid ((HS.out true (by rw [hM2,hq])).1 rfl)
          clear HS hM2 hq
          go_wp2_with fail
          refine wp_region_any (by kernel_rfl) ?_
          change wpAny _ _ _ _ _ _ _ (World.drew _)
          refine wpAny_of_heldS (S:=(fun W'=>(W'.cell? ⟨w.heap.size,0,none⟩=some (.string m.nm)∧W'.cell? ⟨w.heap.size,1,none⟩=some (.slice p.a1 m.vars.length p.c1)∧W'.cell? ⟨w.heap.size,2,none⟩=some (.slice p.a2 m.evs.length p.c2)∧W'.cell? ⟨w.heap.size,3,none⟩=some (.slice p.a3 m.regs.length p.c3)∧W'.cell? ⟨w.heap.size,4,none⟩=some (.slice p.a4 m.vers.length p.c4)∧W'.cell? ⟨w.heap.size,5,none⟩=some (.slice p.a5 m.trns.length p.c5))∧(W'.cell? ⟨w.heap.size,6,none⟩=some (.string m.nm)∧W'.cell? ⟨w.heap.size,7,none⟩=some (.slice p.a1 m.vars.length p.c1)∧W'.cell? ⟨w.heap.size,8,none⟩=some (.slice p.a2 m.evs.length p.c2)∧W'.cell? ⟨w.heap.size,9,none⟩=some (.slice p.a3 m.regs.length p.c3)∧W'.cell? ⟨w.heap.size,10,none⟩=some (.slice p.a4 m.vers.length p.c4)∧W'.cell? ⟨w.heap.size,11,none⟩=some (.slice p.a5 m.trns.length p.c5))∧W'.cell? ⟨b1,o1+k,none⟩=some (.int .i64 y))) ?_ (fun hHeld=>?_)
          · (try dsimp only) <;> (first | exact HS1.out _ (by assumption) | exact HS1.out _ hB0.drew)
          refine tk 0 rfl ?_
          try simp only [Act.put,lyA,lyZ,lyS]
          refine tk 1 rfl ?_
          try simp only [Act.put,lyA,lyZ,lyS]
          refine tk 2 rfl ?_
          try simp only [Act.put,lyA,lyZ,lyS]
          refine tk 3 rfl ?_
          try simp only [Act.put,lyA,lyZ,lyS]
          refine tk 4 rfl ?_
          try simp only [Act.put,lyA,lyZ,lyS]
          refine tk 5 rfl ?_
          try simp only [Act.put,lyA,lyZ,lyS]
          refine tk 6 rfl ?_
          try simp only [Act.put,lyA,lyZ,lyS]
          refine tk 7 rfl ?_
          try simp only [Act.put,lyA,lyZ,lyS]
          refine tk 8 rfl ?_
          try simp only [Act.put,lyA,lyZ,lyS]
          refine tk 9 rfl ?_
          try simp only [Act.put,lyA,lyZ,lyS]
          refine tk 10 rfl ?_
          try simp only [Act.put,lyA,lyZ,lyS]
          refine rdy [11] ?_
          refine rdC rfl (fun K hK=>?_) ?_
          (go_simp;(with_reducible refine (HC.out _ hB0.drew).mono ?_);rintro e w3 ⟨rfl,hb3⟩;have hB3:=hB0.drew.trans hb3;go_wp2_with fail)
          refine hK.out _ _ ?_ (fun hH1=>?_)
          · (try dsimp only) <;> (first | exact HS1.out _ (by assumption) | exact HS1.out _ hB0.drew)
          clear hK K hHeld
          try simp only [Act.put,lyA,lyZ,lyS]
          refine tk 12 rfl ?_
          try simp only [Act.put,lyA,lyZ,lyS]
          refine tk 13 rfl ?_
          try simp only [Act.put,lyA,lyZ,lyS]
          refine tk 14 rfl ?_
          try simp only [Act.put,lyA,lyZ,lyS]
          refine tk 15 rfl ?_
          try simp only [Act.put,lyA,lyZ,lyS]
          refine tk 16 rfl ?_
          try simp only [Act.put,lyA,lyZ,lyS]
          refine tk 17 rfl ?_
          try simp only [Act.put,lyA,lyZ,lyS]
          refine tk 18 rfl ?_
          try simp only [Act.put,lyA,lyZ,lyS]
          refine tk 19 rfl ?_
          try simp only [Act.put,lyA,lyZ,lyS]
          refine tk 21 rfl ?_
          try simp only [Act.put,lyA,lyZ,lyS]
          refine rdy [20] ?_
          refine rdC rfl (fun K hK=>?_) ?_
          (go_simp;(with_reducible refine (HG.out _ hB3).mono ?_);rintro e w4 ⟨rfl,hb4⟩;have hB4:=below_ch hB3 hb4;go_wp2_with fail)
          refine hK.out _ _ ?_ (fun hH2=>?_)
          · (try dsimp only) <;> (first | exact HS1.out _ (by assumption) | exact HS1.out _ hB0.drew)
          clear hK K hH1
          try simp only [Act.put,lyA,lyZ,lyS]
          refine tk 22 rfl ?_
          try simp only [Act.put,lyA,lyZ,lyS]
          refine tk 23 rfl ?_
          try simp only [Act.put,lyA,lyZ,lyS]
          refine tk 24 rfl ?_
          try simp only [Act.put,lyA,lyZ,lyS]
          refine wpAnyH_done (by kernel_rfl) ?_ _
          rotate_left
          exact AllReadyH.nil
          exact AllReadyH.nil
          all_goals
            go_wp2_with fail
            go_roundw
            case rel=>exact ⟨k+1,by omega,by go_num,HBo.out.below hB4,hT.out⟩
            case measure=>simp [intOf] <;> omega
         | false =>
          have hq':(hm != (k:Int))=true:=by simp only [bne,hq];rfl
          have hF:=Lib.hid ((HS.out false (by rw [hM2,hq])).2 rfl)
          clear HS hM2 hq
          go_wp2_with fail
          refine wp_region_any (by kernel_rfl) ?_
          change wpAny _ _ _ _ _ _ _ (World.drew _)
          refine wpAny_of_heldS (S:=(fun W'=>(W'.cell? ⟨w.heap.size,0,none⟩=some (.string m.nm)∧W'.cell? ⟨w.heap.size,1,none⟩=some (.slice p.a1 m.vars.length p.c1)∧W'.cell? ⟨w.heap.size,2,none⟩=some (.slice p.a2 m.evs.length p.c2)∧W'.cell? ⟨w.heap.size,3,none⟩=some (.slice p.a3 m.regs.length p.c3)∧W'.cell? ⟨w.heap.size,4,none⟩=some (.slice p.a4 m.vers.length p.c4)∧W'.cell? ⟨w.heap.size,5,none⟩=some (.slice p.a5 m.trns.length p.c5))∧(W'.cell? ⟨w.heap.size,6,none⟩=some (.string m.nm)∧W'.cell? ⟨w.heap.size,7,none⟩=some (.slice p.a1 m.vars.length p.c1)∧W'.cell? ⟨w.heap.size,8,none⟩=some (.slice p.a2 m.evs.length p.c2)∧W'.cell? ⟨w.heap.size,9,none⟩=some (.slice p.a3 m.regs.length p.c3)∧W'.cell? ⟨w.heap.size,10,none⟩=some (.slice p.a4 m.vers.length p.c4)∧W'.cell? ⟨w.heap.size,11,none⟩=some (.slice p.a5 m.trns.length p.c5))∧W'.cell? ⟨b1,o1+k,none⟩=some (.int .i64 y))) ?_ (fun hHeld=>?_)
          · (try dsimp only) <;> (first | exact HS1.out _ (by assumption) | exact HS1.out _ hB0.drew)
          refine tk 0 rfl ?_
          try simp only [Act.put,lyA,lyZ,lyS]
          refine tk 1 rfl ?_
          try simp only [Act.put,lyA,lyZ,lyS]
          refine tk 2 rfl ?_
          try simp only [Act.put,lyA,lyZ,lyS]
          refine tk 3 rfl ?_
          try simp only [Act.put,lyA,lyZ,lyS]
          refine tk 4 rfl ?_
          try simp only [Act.put,lyA,lyZ,lyS]
          refine tk 5 rfl ?_
          try simp only [Act.put,lyA,lyZ,lyS]
          refine tk 6 rfl ?_
          try simp only [Act.put,lyA,lyZ,lyS]
          refine tk 7 rfl ?_
          try simp only [Act.put,lyA,lyZ,lyS]
          refine tk 8 rfl ?_
          try simp only [Act.put,lyA,lyZ,lyS]
          refine tk 9 rfl ?_
          try simp only [Act.put,lyA,lyZ,lyS]
          refine tk 10 rfl ?_
          try simp only [Act.put,lyA,lyZ,lyS]
          refine rdy [11] ?_
          refine rdC rfl (fun K hK=>?_) ?_
          (go_simp;(with_reducible refine (HC.out _ hB0.drew).mono ?_);rintro e w3 ⟨rfl,hb3⟩;have hB3:=hB0.drew.trans hb3;go_wp2_with fail)
          refine hK.out _ _ ?_ (fun hH1=>?_)
          · (try dsimp only) <;> (first | exact HS1.out _ (by assumption) | exact HS1.out _ hB0.drew)
          clear hK K hHeld
          try simp only [Act.put,lyA,lyZ,lyS]
          refine tk 12 rfl ?_
          try simp only [Act.put,lyA,lyZ,lyS]
          refine tk 13 rfl ?_
          try simp only [Act.put,lyA,lyZ,lyS]
          refine tk 14 rfl ?_
          try simp only [Act.put,lyA,lyZ,lyS]
          refine tk 15 rfl ?_
          try simp only [Act.put,lyA,lyZ,lyS]
          refine tk 16 rfl ?_
          try simp only [Act.put,lyA,lyZ,lyS]
          refine tk 17 rfl ?_
          try simp only [Act.put,lyA,lyZ,lyS]
          refine tk 18 rfl ?_
          try simp only [Act.put,lyA,lyZ,lyS]
          refine tk 19 rfl ?_
          try simp only [Act.put,lyA,lyZ,lyS]
          refine tk 21 rfl ?_
          try simp only [Act.put,lyA,lyZ,lyS]
          refine rdy [20] ?_
          refine rdC rfl (fun K hK=>?_) ?_
          (go_simp;(with_reducible refine (HG.out _ hB3).mono ?_);rintro e w4 ⟨rfl,hb4⟩;have hB4:=below_ch hB3 hb4;go_wp2_with fail)
          refine hK.out _ _ ?_ (fun hH2=>?_)
          · (try dsimp only) <;> (first | exact HS1.out _ (by assumption) | exact HS1.out _ hB0.drew)
          clear hK K hH1
          try simp only [Act.put,lyA,lyZ,lyS]
          refine tk 22 rfl ?_
          try simp only [Act.put,lyA,lyZ,lyS]
          refine tk 23 rfl ?_
          try simp only [Act.put,lyA,lyZ,lyS]
          refine tk 24 rfl ?_
          try simp only [Act.put,lyA,lyZ,lyS]
          refine wpAnyH_done (by kernel_rfl) ?_ _
          rotate_left
          exact AllReadyH.nil
          exact AllReadyH.nil
          all_goals
            go_wp2_with fail
            go_ret
            exact ⟨by rw [hF.out];rfl,(HBo.out.below hB4).mb.bel⟩
    · have hE:=Lib.hid (HFit.out fun j hj=>HNo.out j (by have:=HN.out;omega))
      go_wp2_with fail
      go_ret
      exact ⟨by rw [hE.out];rfl,HBo.out.mb.bel⟩
 · have hd:((l.length:Int) != (m.regs.length:Int))=true:=by simp only [bne_iff_ne,ne_eq];omega
   have HF:=Lib.hid (fit1_len hn)
   clear hn
   go_enter Tryz.func216,Tryz.ntmps216
   obtain ⟨x0,x1,x2,x3,x4,x5,_⟩:=HB.out.mb.box
   go_wp2_with fail
   go_ret
   exact ⟨by rw [HF.out];rfl,HB.out.mb.bel⟩
set_option maxRecDepth 100000 in
set_option maxHeartbeats 4000000 in
theorem sfits_any {Q:Nat→BP} (m:MdlD) (p:Ph) (la ll:List Int) (a1 a2:Option Addr) (c1 c2:Nat) (w:World) (h:Mod Q w m p) (h0:riM m=(0,0,0)) (h1:RowIn w (.slice a1 la.length c1) la) (h2:RowIn w (.slice a2 ll.length c2) ll) (b1:la.length≤1000000) (b2:ll.length≤1000000) (hvl:m.vers.length≤100000) (hrl:m.regs.length≤100000) :
   Calls Tryz.prog 126 #[stV m p,.agg #[.slice a1 la.length c1,.slice a2 ll.length c2]] w fun e w'=>e=.returned (.bool (fit2 m la ll))∧Below w.heap.size w w':=by
 have HB:Hid (Sb m p w.heap.size w ((w.alloc (.cells #[.string m.nm,.slice p.a1 m.vars.length p.c1,.slice p.a2 m.evs.length p.c2,.slice p.a3 m.regs.length p.c3,.slice p.a4 m.vers.length p.c4,.slice p.a5 m.trns.length p.c5,.string m.nm,.slice p.a1 m.vars.length p.c1,.slice p.a2 m.evs.length p.c2,.slice p.a3 m.regs.length p.c3,.slice p.a4 m.vers.length p.c4,.slice p.a5 m.trns.length p.c5] 168)).alloc (.cells #[.slice a1 la.length c1,.slice a2 ll.length c2] 150))):=Lib.hid ((Sb.made h).below (below_al1 _ _))
 have R1:=Lib.hid (fun wx (g:Sb m p w.heap.size w wx)=>srow_any m p la (.slice a1 la.length c1) wx g.mb.mod h0 (h1.below g.mb.bel) b1 hvl hrl)
 have R2:=Lib.hid (fun wx (g:Sb m p w.heap.size w wx)=>srow_any m p ll (.slice a2 ll.length c2) wx g.mb.mod h0 (h2.below g.mb.bel) b2 hvl hrl)
 have HE:Hid (fit2 m la ll=(fit1 m la && fit1 m ll)):=Lib.hid rfl
 unfold stV at R1 R2 ⊢
 generalize fit1 m la=f1 at *
 generalize fit1 m ll=f2 at *
 rw [HE.out]
 clear h h0 h1 h2 HE
 have D:Hid (∀ wx,Below ((w.alloc (.cells #[.string m.nm,.slice p.a1 m.vars.length p.c1,.slice p.a2 m.evs.length p.c2,.slice p.a3 m.regs.length p.c3,.slice p.a4 m.vers.length p.c4,.slice p.a5 m.trns.length p.c5,.string m.nm,.slice p.a1 m.vars.length p.c1,.slice p.a2 m.evs.length p.c2,.slice p.a3 m.regs.length p.c3,.slice p.a4 m.vers.length p.c4,.slice p.a5 m.trns.length p.c5] 168)).alloc (.cells #[.slice a1 la.length c1,.slice a2 ll.length c2] 150)).heap.size ((w.alloc (.cells #[.string m.nm,.slice p.a1 m.vars.length p.c1,.slice p.a2 m.evs.length p.c2,.slice p.a3 m.regs.length p.c3,.slice p.a4 m.vers.length p.c4,.slice p.a5 m.trns.length p.c5,.string m.nm,.slice p.a1 m.vars.length p.c1,.slice p.a2 m.evs.length p.c2,.slice p.a3 m.regs.length p.c3,.slice p.a4 m.vers.length p.c4,.slice p.a5 m.trns.length p.c5] 168)).alloc (.cells #[.slice a1 la.length c1,.slice a2 ll.length c2] 150)) wx→wx.cell? ⟨w.heap.size+1,1,none⟩=some (.slice a2 ll.length c2)):=Lib.hid fun wx g=>(g.cell (p:=⟨w.heap.size+1,1,none⟩) (by simp)).trans (by simp)
 go_enter Tryz.func126,Tryz.ntmps126
 obtain ⟨x0,x1,x2,x3,x4,x5,_⟩:=HB.out.mb.box
 obtain ⟨y0,y1,y2,y3,y4,y5⟩:=HB.out.y
 cases f1 with
 | false =>
  go_wp2_with fail
  (with_reducible refine (R1.out _ HB.out).mono ?_)
  rintro e w3 ⟨rfl,g3⟩
  have HB3:=Lib.hid (HB.out.below g3)
  go_wp2_with fail
  go_ret
  exact ⟨rfl,HB3.out.mb.bel⟩
 | true =>
  go_wp2_with fail
  (with_reducible refine (R1.out _ HB.out).mono ?_)
  rintro e w3 ⟨rfl,g3⟩
  have HB3:=Lib.hid (HB.out.below g3)
  have d3:=D.out w3 g3
  clear x0 x1 x2 x3 x4 x5 y0 y1 y2 y3 y4 y5 HB g3
  obtain ⟨x0,x1,x2,x3,x4,x5,_⟩:=HB3.out.mb.box
  obtain ⟨y0,y1,y2,y3,y4,y5⟩:=HB3.out.y
  go_wp2_with fail
  (with_reducible refine (R2.out _ HB3.out).mono ?_)
  rintro e w4 ⟨rfl,g4⟩
  have HB4:=Lib.hid (HB3.out.below g4)
  go_wp2_with fail
  go_ret
  exact ⟨by first | rfl | simp,HB4.out.mb.bel⟩
structure Sc (m:MdlD) (p:Ph) (la ll:List Int) (a1 a2:Option Addr) (c1 c2:Nat) (w wx:World):Prop where
 sb:Sb m p w.heap.size w wx
 d0:wx.cell? ⟨w.heap.size+1,0,none⟩=some (.slice a1 la.length c1)
 d1:wx.cell? ⟨w.heap.size+1,1,none⟩=some (.slice a2 ll.length c2)
 sz:w.heap.size+1<wx.heap.size
 r1:RowIn wx (.slice a1 la.length c1) la
theorem Sc.below {m:MdlD} {p:Ph} {la ll:List Int} {a1 a2:Option Addr} {c1 c2:Nat} {w wx wy:World} (h:Sc m p la ll a1 a2 c1 c2 w wx) (g:Below wx.heap.size wx wy):Sc m p la ll a1 a2 c1 c2 w wy :=
 ⟨h.sb.below g,(g.cell (p:=⟨w.heap.size+1,0,none⟩) h.sz).trans h.d0,(g.cell (p:=⟨w.heap.size+1,1,none⟩) h.sz).trans h.d1,Nat.lt_of_lt_of_le h.sz g.size,h.r1.below g⟩
theorem Sc.made {Q:Nat→BP} {m:MdlD} {p:Ph} {la ll:List Int} {a1 a2:Option Addr} {c1 c2:Nat} {w:World} (h:Mod Q w m p) (h1:RowIn w (.slice a1 la.length c1) la) :
   Sc m p la ll a1 a2 c1 c2 w ((w.alloc (.cells #[.string m.nm,.slice p.a1 m.vars.length p.c1,.slice p.a2 m.evs.length p.c2,.slice p.a3 m.regs.length p.c3,.slice p.a4 m.vers.length p.c4,.slice p.a5 m.trns.length p.c5,.string m.nm,.slice p.a1 m.vars.length p.c1,.slice p.a2 m.evs.length p.c2,.slice p.a3 m.regs.length p.c3,.slice p.a4 m.vers.length p.c4,.slice p.a5 m.trns.length p.c5] 168)).alloc (.cells #[.slice a1 la.length c1,.slice a2 ll.length c2] 150)) :=
 ⟨(Sb.made h).below (below_al1 _ _),by simp,by simp,by simp,h1.below (below_al2 w _ _)⟩
set_option maxRecDepth 100000 in
set_option maxHeartbeats 4000000 in
theorem sis_any {Q:Nat→BP} (m:MdlD) (p:Ph) (la ll:List Int) (a1 a2:Option Addr) (c1 c2:Nat) (v:Int) (w:World) (h:Mod Q w m p) (h0:riM m=(0,0,0)) (h1:RowIn w (.slice a1 la.length c1) la) (hl:la.length=m.regs.length) (hvl:m.vers.length≤100000) :
   Calls Tryz.prog 127 #[stV m p,.agg #[.slice a1 la.length c1,.slice a2 ll.length c2],.int .i64 v] w fun e w'=>e=.returned (.bool (isA m la v))∧Below w.heap.size w w':=by
 have HB:=Lib.hid (Sc.made (ll:=ll) (a2:=a2) (c2:=c2) h h1)
 have HC0:=Lib.hid (fun wx (g:Sc m p la ll a1 a2 c1 c2 w wx)=>svertex_any m p v wx g.sb.mb.mod hvl)
 have HG0:=Lib.hid (fun wx (g:Sc m p la ll a1 a2 c1 c2 w wx)=>rhome16_any m p v wx g.sb.mb.mod h0 (by omega))
 have HI:Hid (isA m la v=(stands m v && atL la (rgA m v) == v)):=Lib.hid rfl
 have HSt:=Lib.hid (fun (hs:stands m v=true)=>stands_in h0 hs)
 have HLl:=Lib.hid hl
 obtain ⟨st,hst⟩:∃ b,stands m v=b:=⟨_,rfl⟩
 unfold ixV at HG0
 unfold stV mdV at *
 rw [hst] at HI
 have HC1:Hid (∀ wx,Sc m p la ll a1 a2 c1 c2 w wx→Calls Tryz.prog 217 #[.agg #[.string m.nm,.slice p.a1 m.vars.length p.c1,.slice p.a2 m.evs.length p.c2,.slice p.a3 m.regs.length p.c3,.slice p.a4 m.vers.length p.c4,.slice p.a5 m.trns.length p.c5,.string m.nm,.slice p.a1 m.vars.length p.c1,.slice p.a2 m.evs.length p.c2,.slice p.a3 m.regs.length p.c3,.slice p.a4 m.vers.length p.c4,.slice p.a5 m.trns.length p.c5],.int .i64 v] wx fun e w'=>e=.returned (.bool st)∧Below wx.heap.size wx w'):=Lib.hid (by rw [← hst];exact HC0.out)
 obtain ⟨a1',c1',e,hc,q⟩:=h1.len
 simp only [Value.slice.injEq] at e
 obtain ⟨e1,_,e2⟩:=e
 rw [← e2] at hc
 rw [← e1] at q
 have hq:=q
 clear h h0 HC0 e1 e2 q hl
 cases st with
 | false =>
  rw [Bool.false_and] at HI
  rw [HI.out]
  clear HI HG0 HSt hq hst h1
  go_enter Tryz.func127,Tryz.ntmps127
  go_wp2_with fail
  generalize ((w.alloc (.cells #[.string m.nm,.slice p.a1 m.vars.length p.c1,.slice p.a2 m.evs.length p.c2,.slice p.a3 m.regs.length p.c3,.slice p.a4 m.vers.length p.c4,.slice p.a5 m.trns.length p.c5,.string m.nm,.slice p.a1 m.vars.length p.c1,.slice p.a2 m.evs.length p.c2,.slice p.a3 m.regs.length p.c3,.slice p.a4 m.vers.length p.c4,.slice p.a5 m.trns.length p.c5] 168)).alloc (.cells #[.slice a1 la.length c1,.slice a2 ll.length c2] 150))=W1 at *
  have HC:=Lib.hid (fun wx (g:Below W1.heap.size W1 wx)=>HC1.out wx (HB.out.below g))
  have HS1:Hid (∀ W',Below W1.heap.size W1 W'→(W'.cell? ⟨w.heap.size,0,none⟩=some (.string m.nm)∧W'.cell? ⟨w.heap.size,1,none⟩=some (.slice p.a1 m.vars.length p.c1)∧W'.cell? ⟨w.heap.size,2,none⟩=some (.slice p.a2 m.evs.length p.c2)∧W'.cell? ⟨w.heap.size,3,none⟩=some (.slice p.a3 m.regs.length p.c3)∧W'.cell? ⟨w.heap.size,4,none⟩=some (.slice p.a4 m.vers.length p.c4)∧W'.cell? ⟨w.heap.size,5,none⟩=some (.slice p.a5 m.trns.length p.c5))∧(W'.cell? ⟨w.heap.size,6,none⟩=some (.string m.nm)∧W'.cell? ⟨w.heap.size,7,none⟩=some (.slice p.a1 m.vars.length p.c1)∧W'.cell? ⟨w.heap.size,8,none⟩=some (.slice p.a2 m.evs.length p.c2)∧W'.cell? ⟨w.heap.size,9,none⟩=some (.slice p.a3 m.regs.length p.c3)∧W'.cell? ⟨w.heap.size,10,none⟩=some (.slice p.a4 m.vers.length p.c4)∧W'.cell? ⟨w.heap.size,11,none⟩=some (.slice p.a5 m.trns.length p.c5))∧W'.cell? ⟨w.heap.size+1,0,none⟩=some (.slice a1 la.length c1)):=Lib.hid fun W' g=>by
    have hh:=HB.out.below g
    obtain ⟨x0,x1,x2,x3,x4,x5,_⟩:=hh.sb.mb.box
    exact ⟨⟨x0,x1,x2,x3,x4,x5⟩,hh.sb.y,hh.d0⟩
  have hB0:Below W1.heap.size W1 W1:=Below.refl _ _
  clear HC1
  refine wp_region_any (by kernel_rfl) ?_
  change wpAny _ _ _ _ _ _ _ (World.drew _)
  refine wpAny_of_heldS (S:=(fun W'=>(W'.cell? ⟨w.heap.size,0,none⟩=some (.string m.nm)∧W'.cell? ⟨w.heap.size,1,none⟩=some (.slice p.a1 m.vars.length p.c1)∧W'.cell? ⟨w.heap.size,2,none⟩=some (.slice p.a2 m.evs.length p.c2)∧W'.cell? ⟨w.heap.size,3,none⟩=some (.slice p.a3 m.regs.length p.c3)∧W'.cell? ⟨w.heap.size,4,none⟩=some (.slice p.a4 m.vers.length p.c4)∧W'.cell? ⟨w.heap.size,5,none⟩=some (.slice p.a5 m.trns.length p.c5))∧(W'.cell? ⟨w.heap.size,6,none⟩=some (.string m.nm)∧W'.cell? ⟨w.heap.size,7,none⟩=some (.slice p.a1 m.vars.length p.c1)∧W'.cell? ⟨w.heap.size,8,none⟩=some (.slice p.a2 m.evs.length p.c2)∧W'.cell? ⟨w.heap.size,9,none⟩=some (.slice p.a3 m.regs.length p.c3)∧W'.cell? ⟨w.heap.size,10,none⟩=some (.slice p.a4 m.vers.length p.c4)∧W'.cell? ⟨w.heap.size,11,none⟩=some (.slice p.a5 m.trns.length p.c5))∧W'.cell? ⟨w.heap.size+1,0,none⟩=some (.slice a1 la.length c1))) ?_ (fun hHeld=>?_)
  · (try dsimp only) <;> (first | exact HS1.out _ (by assumption) | exact HS1.out _ hB0.drew)
  refine tk 0 rfl ?_
  try simp only [Act.put,lyA,lyZ,lyS]
  refine tk 1 rfl ?_
  try simp only [Act.put,lyA,lyZ,lyS]
  refine rdy [2] ?_
  refine rdC rfl (fun K hK=>?_) ?_
  (go_simp;(with_reducible refine (HC.out _ (by first | assumption | exact hB0.drew)).mono ?_);rintro e w3 ⟨rfl,hb3⟩;have hB3:=below_ch (by first | assumption | exact hB0.drew) hb3;go_wp2_with fail)
  refine hK.out _ _ ?_ (fun hH1=>?_)
  · (try dsimp only) <;> (first | exact HS1.out _ (by assumption) | exact HS1.out _ hB0.drew)
  clear hK K hHeld
  try simp only [Act.put,lyA,lyZ,lyS]
  refine tk 3 rfl ?_
  try simp only [Act.put,lyA,lyZ,lyS]
  refine tkP 4 rfl ?_
  try simp only [Act.put,lyA,lyZ,lyS]
  refine tkP 5 rfl ?_
  try simp only [Act.put,lyA,lyZ,lyS]
  refine tkP 6 rfl ?_
  try simp only [Act.put,lyA,lyZ,lyS]
  refine tkP 7 rfl ?_
  try simp only [Act.put,lyA,lyZ,lyS]
  refine tkP 8 rfl ?_
  try simp only [Act.put,lyA,lyZ,lyS]
  refine tkP 9 rfl ?_
  try simp only [Act.put,lyA,lyZ,lyS]
  refine tkP 10 rfl ?_
  try simp only [Act.put,lyA,lyZ,lyS]
  refine tkP 11 rfl ?_
  try simp only [Act.put,lyA,lyZ,lyS]
  refine tkP 12 rfl ?_
  try simp only [Act.put,lyA,lyZ,lyS]
  refine tkP 13 rfl ?_
  try simp only [Act.put,lyA,lyZ,lyS]
  refine tk 14 rfl ?_
  try simp only [Act.put,lyA,lyZ,lyS]
  refine tk 15 rfl ?_
  try simp only [Act.put,lyA,lyZ,lyS]
  refine wpAnyH_done (by kernel_rfl) ?_ _
  rotate_left
  exact AllReadyH.nil
  all_goals
    go_wp2_with fail
    go_ret
    exact ⟨rfl,(HB.out.below hB3).sb.mb.bel⟩
 | true =>
  obtain ⟨k,hk,rfl,r,hr,e1,e2,_⟩:=HSt.out hst
  have hrl:r<la.length:=by rw [HLl.out];exact hr
  have HG1:Hid (∀ wx,Sc m p la ll a1 a2 c1 c2 w wx→Calls Tryz.prog 77 #[.agg #[.string m.nm,.slice p.a1 m.vars.length p.c1,.slice p.a2 m.evs.length p.c2,.slice p.a3 m.regs.length p.c3,.slice p.a4 m.vers.length p.c4,.slice p.a5 m.trns.length p.c5],.int .i64 (k:Int)] wx fun e w'=>e=.returned (.int .i64 (r:Int))∧Below wx.heap.size wx w'):=Lib.hid (by rw [← e2];exact HG0.out)
  obtain ⟨b1,o1,ea,hb1,hc1⟩:=hq r hrl
  rw [e1,Bool.true_and,atL_at hrl] at HI
  obtain ⟨y,hy⟩:∃ y,la[r]'hrl=y:=⟨_,rfl⟩
  rw [hy] at hc1 HI
  rw [HI.out]
  have hb1':b1<((w.alloc (.cells #[.string m.nm,.slice p.a1 m.vars.length p.c1,.slice p.a2 m.evs.length p.c2,.slice p.a3 m.regs.length p.c3,.slice p.a4 m.vers.length p.c4,.slice p.a5 m.trns.length p.c5,.string m.nm,.slice p.a1 m.vars.length p.c1,.slice p.a2 m.evs.length p.c2,.slice p.a3 m.regs.length p.c3,.slice p.a4 m.vers.length p.c4,.slice p.a5 m.trns.length p.c5] 168)).alloc (.cells #[.slice a1 la.length c1,.slice a2 ll.length c2] 150)).heap.size:=by simp;omega
  have hc1':((w.alloc (.cells #[.string m.nm,.slice p.a1 m.vars.length p.c1,.slice p.a2 m.evs.length p.c2,.slice p.a3 m.regs.length p.c3,.slice p.a4 m.vers.length p.c4,.slice p.a5 m.trns.length p.c5,.string m.nm,.slice p.a1 m.vars.length p.c1,.slice p.a2 m.evs.length p.c2,.slice p.a3 m.regs.length p.c3,.slice p.a4 m.vers.length p.c4,.slice p.a5 m.trns.length p.c5] 168)).alloc (.cells #[.slice a1 la.length c1,.slice a2 ll.length c2] 150)).cell? ⟨b1,o1+r,none⟩=some (.int .i64 y):=((below_al2 w _ _).cell (p:=⟨b1,o1+r,none⟩) hb1).trans hc1
  have hrI:(r:Int)<(la.length:Int):=by omega
  have hr0:(0:Int)≤(r:Int):=by omega
  clear HI HG0 HSt hst e1 e2 hy hc1 hq hb1
  subst ea
  go_enter Tryz.func127,Tryz.ntmps127
  go_wp2_with fail
  generalize ((w.alloc (.cells #[.string m.nm,.slice p.a1 m.vars.length p.c1,.slice p.a2 m.evs.length p.c2,.slice p.a3 m.regs.length p.c3,.slice p.a4 m.vers.length p.c4,.slice p.a5 m.trns.length p.c5,.string m.nm,.slice p.a1 m.vars.length p.c1,.slice p.a2 m.evs.length p.c2,.slice p.a3 m.regs.length p.c3,.slice p.a4 m.vers.length p.c4,.slice p.a5 m.trns.length p.c5] 168)).alloc (.cells #[.slice (some ⟨b1,o1,none⟩) la.length c1,.slice a2 ll.length c2] 150))=W1 at *
  have HC:=Lib.hid (fun wx (g:Below W1.heap.size W1 wx)=>HC1.out wx (HB.out.below g))
  have HG:=Lib.hid (fun wx (g:Below W1.heap.size W1 wx)=>HG1.out wx (HB.out.below g))
  have HS1:Hid (∀ W',Below W1.heap.size W1 W'→(W'.cell? ⟨w.heap.size,0,none⟩=some (.string m.nm)∧W'.cell? ⟨w.heap.size,1,none⟩=some (.slice p.a1 m.vars.length p.c1)∧W'.cell? ⟨w.heap.size,2,none⟩=some (.slice p.a2 m.evs.length p.c2)∧W'.cell? ⟨w.heap.size,3,none⟩=some (.slice p.a3 m.regs.length p.c3)∧W'.cell? ⟨w.heap.size,4,none⟩=some (.slice p.a4 m.vers.length p.c4)∧W'.cell? ⟨w.heap.size,5,none⟩=some (.slice p.a5 m.trns.length p.c5))∧(W'.cell? ⟨w.heap.size,6,none⟩=some (.string m.nm)∧W'.cell? ⟨w.heap.size,7,none⟩=some (.slice p.a1 m.vars.length p.c1)∧W'.cell? ⟨w.heap.size,8,none⟩=some (.slice p.a2 m.evs.length p.c2)∧W'.cell? ⟨w.heap.size,9,none⟩=some (.slice p.a3 m.regs.length p.c3)∧W'.cell? ⟨w.heap.size,10,none⟩=some (.slice p.a4 m.vers.length p.c4)∧W'.cell? ⟨w.heap.size,11,none⟩=some (.slice p.a5 m.trns.length p.c5))∧W'.cell? ⟨w.heap.size+1,0,none⟩=some (.slice (some ⟨b1,o1,none⟩) la.length c1)∧W'.cell? ⟨b1,o1+r,none⟩=some (.int .i64 y)):=Lib.hid fun W' g=>by
    have hh:=HB.out.below g
    obtain ⟨x0,x1,x2,x3,x4,x5,_⟩:=hh.sb.mb.box
    exact ⟨⟨x0,x1,x2,x3,x4,x5⟩,hh.sb.y,hh.d0,(g.cell (p:=⟨b1,o1+r,none⟩) hb1').trans hc1'⟩
  have hB0:Below W1.heap.size W1 W1:=Below.refl _ _
  clear HC1 HG1 h1
  refine wp_region_any (by kernel_rfl) ?_
  change wpAny _ _ _ _ _ _ _ (World.drew _)
  refine wpAny_of_heldS (S:=(fun W'=>(W'.cell? ⟨w.heap.size,0,none⟩=some (.string m.nm)∧W'.cell? ⟨w.heap.size,1,none⟩=some (.slice p.a1 m.vars.length p.c1)∧W'.cell? ⟨w.heap.size,2,none⟩=some (.slice p.a2 m.evs.length p.c2)∧W'.cell? ⟨w.heap.size,3,none⟩=some (.slice p.a3 m.regs.length p.c3)∧W'.cell? ⟨w.heap.size,4,none⟩=some (.slice p.a4 m.vers.length p.c4)∧W'.cell? ⟨w.heap.size,5,none⟩=some (.slice p.a5 m.trns.length p.c5))∧(W'.cell? ⟨w.heap.size,6,none⟩=some (.string m.nm)∧W'.cell? ⟨w.heap.size,7,none⟩=some (.slice p.a1 m.vars.length p.c1)∧W'.cell? ⟨w.heap.size,8,none⟩=some (.slice p.a2 m.evs.length p.c2)∧W'.cell? ⟨w.heap.size,9,none⟩=some (.slice p.a3 m.regs.length p.c3)∧W'.cell? ⟨w.heap.size,10,none⟩=some (.slice p.a4 m.vers.length p.c4)∧W'.cell? ⟨w.heap.size,11,none⟩=some (.slice p.a5 m.trns.length p.c5))∧W'.cell? ⟨w.heap.size+1,0,none⟩=some (.slice (some ⟨b1,o1,none⟩) la.length c1)∧W'.cell? ⟨b1,o1+r,none⟩=some (.int .i64 y))) ?_ (fun hHeld=>?_)
  · (try dsimp only) <;> (first | exact HS1.out _ (by assumption) | exact HS1.out _ hB0.drew)
  refine tk 0 rfl ?_
  try simp only [Act.put,lyA,lyZ,lyS]
  refine tk 1 rfl ?_
  try simp only [Act.put,lyA,lyZ,lyS]
  refine rdy [2] ?_
  refine rdC rfl (fun K hK=>?_) ?_
  (go_simp;(with_reducible refine (HC.out _ (by first | assumption | exact hB0.drew)).mono ?_);rintro e w3 ⟨rfl,hb3⟩;have hB3:=below_ch (by first | assumption | exact hB0.drew) hb3;go_wp2_with fail)
  refine hK.out _ _ ?_ (fun hH1=>?_)
  · (try dsimp only) <;> (first | exact HS1.out _ (by assumption) | exact HS1.out _ hB0.drew)
  clear hK K hHeld
  try simp only [Act.put,lyA,lyZ,lyS]
  refine tk 3 rfl ?_
  try simp only [Act.put,lyA,lyZ,lyS]
  refine tk 4 rfl ?_
  try simp only [Act.put,lyA,lyZ,lyS]
  refine tk 5 rfl ?_
  try simp only [Act.put,lyA,lyZ,lyS]
  refine tk 6 rfl ?_
  try simp only [Act.put,lyA,lyZ,lyS]
  refine tk 7 rfl ?_
  try simp only [Act.put,lyA,lyZ,lyS]
  refine tk 8 rfl ?_
  try simp only [Act.put,lyA,lyZ,lyS]
  refine tk 12 rfl ?_
  try simp only [Act.put,lyA,lyZ,lyS]
  refine rdy [9] ?_
  refine rdC rfl (fun K hK=>?_) ?_
  (go_simp;(with_reducible refine (HG.out _ (by assumption)).mono ?_);rintro e w4 ⟨rfl,hb4⟩;have hB4:=below_ch hB3 hb4;go_wp2_with fail)
  refine hK.out _ _ ?_ (fun hH2=>?_)
  · (try dsimp only) <;> (first | exact HS1.out _ (by assumption) | exact HS1.out _ hB0.drew)
  clear hK K hH1
  try simp only [Act.put,lyA,lyZ,lyS]
  refine tk 10 rfl ?_
  try simp only [Act.put,lyA,lyZ,lyS]
  refine tk 11 rfl ?_
  try simp only [Act.put,lyA,lyZ,lyS]
  refine tk 13 rfl ?_
  try simp only [Act.put,lyA,lyZ,lyS]
  refine tk 14 rfl ?_
  try simp only [Act.put,lyA,lyZ,lyS]
  refine tk 15 rfl ?_
  try simp only [Act.put,lyA,lyZ,lyS]
  refine wpAnyH_done (by kernel_rfl) ?_ _
  rotate_left
  exact AllReadyH.nil
  exact AllReadyH.nil
  all_goals
    go_wp2_with fail
    go_ret
    exact ⟨rfl,(HB.out.below hB4).sb.mb.bel⟩
theorem ownsRow_capG' {N T n c:Nat} {a:Option Addr} {w:World} {xs:List Value} (h:w.ownsRow N T 1 (.slice a n c) n xs):n≤c:=by
 rcases h.2 with ⟨e,h0⟩ | ⟨g',c',_,e,_,_,hc,_⟩
 · omega
 · simp only [Value.slice.injEq] at e;omega
set_option maxRecDepth 100000 in
set_option maxHeartbeats 4000000 in
theorem srule_any {Q:Nat→BP} (m:MdlD) (p:Ph) (la ll:List Int) (a1 a2:Option Addr) (c1 c2:Nat) (r:Nat) (w:World) (h:Mod Q w m p) (h0:riM m=(0,0,0)) (h1:RowIn w (.slice a1 la.length c1) la) (hl:la.length=m.regs.length) (hr:r<m.regs.length) (hvl:m.vers.length≤100000) (hrl:m.regs.length≤100000) :
   Calls Tryz.prog 209 #[stV m p,.agg #[.slice a1 la.length c1,.slice a2 ll.length c2],.int .i64 (r:Int)] w fun e w'=>e=.returned (.int .u8 (ruleM m la r:Int))∧Below w.heap.size w w':=by
 obtain ⟨e3,b3,o3,hb3,k30,k31,hcap3⟩:∃ (_:True) (b3 o3:Nat),b3<w.heap.size∧w.cell? ⟨b3,o3+r * 2,none⟩=some (.string m.regs[r].nm)∧w.cell? ⟨b3,o3+r * 2+1,none⟩=some (.int .i64 m.regs[r].own)∧m.regs.length≤p.c3∧p.a3=some ⟨b3,o3,none⟩:=by
   obtain ⟨b3,o3,e3,hb3,k30,k31⟩:=h.regs.get hr
   exact ⟨trivial,b3,o3,hb3,k30,k31,h.regs.cap (by omega),e3⟩
 obtain ⟨hcap3,e3'⟩:=hcap3
 obtain ⟨q1,r1,q2,r2,q3,r3,q4,r4,q5,r5⟩:=p
 dsimp only at e3' hcap3
 subst e3'
 have HB:=Lib.hid (Sc.made (ll:=ll) (a2:=a2) (c2:=c2) h h1)
 have IS:=Lib.hid (fun wx (g:Sc m ⟨q1,r1,q2,r2,some ⟨b3,o3,none⟩,r3,q4,r4,q5,r5⟩ la ll a1 a2 c1 c2 w wx) (v:Int)=>sis_any m ⟨q1,r1,q2,r2,some ⟨b3,o3,none⟩,r3,q4,r4,q5,r5⟩ la ll a1 a2 c1 c2 v wx g.sb.mb.mod h0 g.r1 hl hvl)
 obtain ⟨a1',c1',e,hc,q⟩:=h1.len
 simp only [Value.slice.injEq] at e
 obtain ⟨e1,_,e2⟩:=e
 rw [← e2] at hc
 rw [← e1] at q
 have hrl2:r<la.length:=by omega
 obtain ⟨b1,o1,ea,hb1,k1⟩:=q r hrl2
 have hrI:(r:Int)<(m.regs.length:Int):=by omega
 have hrL:(r:Int)<(la.length:Int):=by omega
 have hr0:(0:Int)≤(r:Int):=by omega
 have HRu:Hid (ruleM m la r=if ownA m r<0 then (if 0≤atL la r then 0 else 1) else if isA m la (ownA m r) then (if 0≤atL la r then 0 else 2) else (if 0≤atL la r then 3 else 0)):=Lib.hid rfl
 rw [ownA_at hr,atL_at hrl2] at HRu
 have HRg:=Lib.hid (reg_right h0 hr)
 obtain ⟨y,hy⟩:∃ y,la[r]'hrl2=y:=⟨_,rfl⟩
 rw [hy] at k1 HRu
 unfold stV at *
 dsimp only at IS ⊢
 clear h h0 h1 e1 e2 q hl hy e3
 subst ea
 rcases HRg.out with ⟨hr00,ho⟩ | ⟨hr00,s,hs,ho,hk⟩ <;> clear hr00
 · rw [ho] at k31 HRu
   rw [if_pos (by decide)] at HRu
   clear HRg ho IS
   by_cases hp:0≤y
   · rw [if_pos hp] at HRu
     rw [HRu.out]
     go_enter Tryz.func209,Tryz.ntmps209
     have x3:=HB.out.sb.mb.box.c3
     dsimp only at x3
     have d0:=HB.out.d0
     go_wp2_with fail
     go_ret
     exact ⟨rfl,HB.out.sb.mb.bel⟩
   · rw [if_neg hp] at HRu
     rw [HRu.out]
     have hpd:decide (0≤y)=false:=decide_eq_false hp
     go_enter Tryz.func209,Tryz.ntmps209
     have x3:=HB.out.sb.mb.box.c3
     dsimp only at x3
     have d0:=HB.out.d0
     go_wp2_with fail
     go_ret
     exact ⟨rfl,HB.out.sb.mb.bel⟩
 · rw [ho] at k31 HRu
   rw [if_neg (by omega)] at HRu
   have hs1:¬ ((s:Int)<0):=by omega
   have hs0:(0:Int)≤(s:Int):=by omega
   have ISs:=Lib.hid (fun wx g=>IS.out wx g (s:Int))
   clear HRg ho IS hk
   obtain ⟨is,his⟩:∃ b,isA m la (s:Int)=b:=⟨_,rfl⟩
   rw [his] at HRu ISs
   clear his
   cases is with
   | true =>
    rw [if_pos rfl] at HRu
    by_cases hp:0≤y
    · rw [if_pos hp] at HRu
      rw [HRu.out]
      go_enter Tryz.func209,Tryz.ntmps209
      have x3:=HB.out.sb.mb.box.c3
      dsimp only at x3
      have d0:=HB.out.d0
      obtain ⟨x0,x1,x2,_,x4,x5,_⟩:=HB.out.sb.mb.box
      dsimp only at x0 x1 x2 x4 x5
      obtain ⟨y0,y1,y2,y3,y4,y5⟩:=HB.out.sb.y
      dsimp only at y0 y1 y2 y3 y4 y5
      go_wp2_with fail
      (with_reducible refine (ISs.out _ HB.out).mono ?_)
      rintro e w3 ⟨rfl,g3⟩
      have HB3:=Lib.hid (HB.out.below g3)
      clear x0 x1 x2 x3 x4 x5 y0 y1 y2 y3 y4 y5 d0 HB g3
      obtain ⟨x0,x1,x2,x3,x4,x5,_⟩:=HB3.out.sb.mb.box
      obtain ⟨y0,y1,y2,y3,y4,y5⟩:=HB3.out.sb.y
      dsimp only at x0 x1 x2 x3 x4 x5 y0 y1 y2 y3 y4 y5
      have d0:=HB3.out.d0
      have d1:=HB3.out.d1
      go_wp2_with fail
      (with_reducible refine (ISs.out _ HB3.out).mono ?_)
      rintro e w4 ⟨rfl,g4⟩
      have HB4:=Lib.hid (HB3.out.below g4)
      go_wp2_with fail
      go_ret
      exact ⟨rfl,HB4.out.sb.mb.bel⟩
    · rw [if_neg hp] at HRu
      rw [HRu.out]
      have hpd:decide (0≤y)=false:=decide_eq_false hp
      go_enter Tryz.func209,Tryz.ntmps209
      have x3:=HB.out.sb.mb.box.c3
      dsimp only at x3
      have d0:=HB.out.d0
      obtain ⟨x0,x1,x2,_,x4,x5,_⟩:=HB.out.sb.mb.box
      dsimp only at x0 x1 x2 x4 x5
      obtain ⟨y0,y1,y2,y3,y4,y5⟩:=HB.out.sb.y
      dsimp only at y0 y1 y2 y3 y4 y5
      go_wp2_with fail
      (with_reducible refine (ISs.out _ HB.out).mono ?_)
      rintro e w3 ⟨rfl,g3⟩
      have HB3:=Lib.hid (HB.out.below g3)
      go_wp2_with fail
      go_ret
      exact ⟨rfl,HB3.out.sb.mb.bel⟩
   | false =>
    rw [if_neg (by decide)] at HRu
    by_cases hp:0≤y
    · rw [if_pos hp] at HRu
      rw [HRu.out]
      go_enter Tryz.func209,Tryz.ntmps209
      have x3:=HB.out.sb.mb.box.c3
      dsimp only at x3
      have d0:=HB.out.d0
      obtain ⟨x0,x1,x2,_,x4,x5,_⟩:=HB.out.sb.mb.box
      dsimp only at x0 x1 x2 x4 x5
      obtain ⟨y0,y1,y2,y3,y4,y5⟩:=HB.out.sb.y
      dsimp only at y0 y1 y2 y3 y4 y5
      go_wp2_with fail
      (with_reducible refine (ISs.out _ HB.out).mono ?_)
      rintro e w3 ⟨rfl,g3⟩
      have HB3:=Lib.hid (HB.out.below g3)
      clear x0 x1 x2 x3 x4 x5 y0 y1 y2 y3 y4 y5 d0 HB g3
      obtain ⟨x0,x1,x2,x3,x4,x5,_⟩:=HB3.out.sb.mb.box
      obtain ⟨y0,y1,y2,y3,y4,y5⟩:=HB3.out.sb.y
      dsimp only at x0 x1 x2 x3 x4 x5 y0 y1 y2 y3 y4 y5
      have d0:=HB3.out.d0
      have d1:=HB3.out.d1
      go_wp2_with fail
      (with_reducible refine (ISs.out _ HB3.out).mono ?_)
      rintro e w4 ⟨rfl,g4⟩
      have HB4:=Lib.hid (HB3.out.below g4)
      go_wp2_with fail
      go_ret
      exact ⟨rfl,HB4.out.sb.mb.bel⟩
    · rw [if_neg hp] at HRu
      rw [HRu.out]
      have hpd:decide (0≤y)=false:=decide_eq_false hp
      go_enter Tryz.func209,Tryz.ntmps209
      have x3:=HB.out.sb.mb.box.c3
      dsimp only at x3
      have d0:=HB.out.d0
      obtain ⟨x0,x1,x2,_,x4,x5,_⟩:=HB.out.sb.mb.box
      dsimp only at x0 x1 x2 x4 x5
      obtain ⟨y0,y1,y2,y3,y4,y5⟩:=HB.out.sb.y
      dsimp only at y0 y1 y2 y3 y4 y5
      go_wp2_with fail
      (with_reducible refine (ISs.out _ HB.out).mono ?_)
      rintro e w3 ⟨rfl,g3⟩
      have HB3:=Lib.hid (HB.out.below g3)
      clear x0 x1 x2 x3 x4 x5 y0 y1 y2 y3 y4 y5 d0 HB g3
      obtain ⟨x0,x1,x2,x3,x4,x5,_⟩:=HB3.out.sb.mb.box
      obtain ⟨y0,y1,y2,y3,y4,y5⟩:=HB3.out.sb.y
      dsimp only at x0 x1 x2 x3 x4 x5 y0 y1 y2 y3 y4 y5
      have d0:=HB3.out.d0
      have d1:=HB3.out.d1
      go_wp2_with fail
      (with_reducible refine (ISs.out _ HB3.out).mono ?_)
      rintro e w4 ⟨rfl,g4⟩
      have HB4:=Lib.hid (HB3.out.below g4)
      go_wp2_with fail
      go_ret
      exact ⟨rfl,HB4.out.sb.mb.bel⟩
theorem with_facts {l:List Int} {w w4:World} {v4:Value} (hown4:w4.ownsRow w.heap.size 3 1 v4 ([] ++ l).length (nums ([] ++ l))) (hgrow4:w.grownBy w4 (Value.slice none 0 0).ownBlock) {i:Nat} (hi:i<l.length) (v:Int) :
   ∃ g c4,v4=.slice (some ⟨g,0,none⟩) l.length c4∧l.length≤c4∧w4.cell? ⟨g,i,none⟩=some (.int .i64 l[i])∧w4.frozen? ⟨g,i,none⟩=false∧Below w.heap.size w (w4.setCell ⟨g,i,none⟩ (.int .i64 v))∧(w4.setCell ⟨g,i,none⟩ (.int .i64 v)).ownsRow w.heap.size 3 1 (.slice (some ⟨g,0,none⟩) l.length c4) (l.set i v).length (nums (l.set i v)):=by
 rw [List.nil_append] at hown4
 obtain ⟨g,c4,rfl⟩:=ownsRow_pos hown4 (by omega)
 refine ⟨g,c4,rfl,ownsRow_capG' hown4,(hown4.cellAt i (by omega)).trans (by simp [nums,hi]),hown4.frozenAt i,((Below.refl w.heap.size w).grown hgrow4 (Nat.le_refl _) (fun q hq=>by cases hq)).setCell (p:=⟨g,i,none⟩) (hown4.lt g rfl).1 _,?_⟩
 have e:nums (l.set i v)=(nums l).set i (.int .i64 v):=by simp [nums,List.map_set]
 rw [List.length_set,e];exact (hown4.stored i (.int .i64 v)).1
set_option maxRecDepth 100000 in
set_option maxHeartbeats 4000000 in
theorem swith_any (l:List Int) (lv:Value) (i:Nat) (v:Int) (w:World) (h:RowIn w lv l) (hi:i<l.length) (hl:l.length≤900000) :
   Calls Tryz.prog 210 #[lv,.int .i64 (i:Int),.int .i64 v] w (RowP (l.set i v) w):=by
 obtain ⟨iI,hiI,zI0,zI1,zI2⟩:=info_parts info_Num
 have HR:=Lib.hid h
 obtain ⟨a,c,rfl,hc,_⟩:=h.len
 clear h
 go_enter Tryz.func210,Tryz.ntmps210
 go_wp2_with (at_builtin;refine wpList_append_row _ rfl _ _ 31 rfl 3 w.heap.size iI (.int .i64 0) Tryz.underlying31 hiI zI0 zI1 zI2 rfl (.slice none 0 0) [] rfl (World.ownsRow_nil _ _ _ _) _ l rfl HR.out (by simp;omega) (Nat.le_refl _) ?_;intro v4 w4 hown4 hgrow4 hnxt4;obtain ⟨g,c4,rfl,hcap,hcell,hfr,hB,hO⟩:=with_facts hown4 hgrow4 hi v;have hiI2:(i:Int)<(l.length:Int):=(by omega);have hi0:(0:Int)≤(i:Int):=(by omega);have HBB:=Lib.hid hB;have HOO:=Lib.hid hO;clear hB hO hown4 hgrow4 hnxt4)
 go_ret
 exact ⟨_,rfl,HOO.out,HBB.out⟩
set_option maxRecDepth 100000 in
set_option maxHeartbeats 4000000 in
theorem sleast_any {Q:Nat→BP} (m:MdlD) (p:Ph) (r k:Nat) (w:World) (h:Mod Q w m p) (hvl:m.vers.length≤100000) :
   Calls Tryz.prog 211 #[stV m p,.int .i64 (r:Int),.int .u8 (k:Int)] w fun e w'=>e=.returned (.int .i64 (lstM m r k))∧Below w.heap.size w w':=by
 have HB:=Lib.hid (Sb.made h)
 have KK:=Lib.hid (fun wx (g:Sb m p w.heap.size w wx)=>rkids16_any m p (r:Int) wx g.mb.mod hvl)
 have HL:Hid (lstM m r k=((kidsM m r).find? (fun v=>kdA m v == k)).getD (-1)):=Lib.hid rfl
 have hlen:(kidsM m r).length≤100000:=by have:=sel_len (isKid r) m.vers;have e:(kidsM m r).length≤m.vers.length:=this;omega
 have HIn:Hid (∀ j (hj:j<(kidsM m r).length),∃ q:Nat,q<m.vers.length∧(kidsM m r)[j]=(q:Int)):=Lib.hid fun j hj=>by
   obtain ⟨q,hq,e,_⟩:=(sel_mem _ _ _).1 (List.getElem_mem hj)
   exact ⟨q,hq,e⟩
 have HV:=Lib.hid (fun wx (g:Sb m p w.heap.size w wx) (j:Nat) (hj:j<m.vers.length)=>(show ∃ b2 o2,p.a4=some ⟨b2,o2,none⟩∧b2<wx.heap.size∧wx.cell? ⟨b2,o2+j * 8+1,none⟩=some (.int .u8 m.vers[j].kd) by
   obtain ⟨b2,o2,ea,hb2,dv,_,_,r1,_⟩:=g.mb.mod.vers.get hj
   exact ⟨b2,o2,ea,hb2,r1⟩))
 have hcapv:=Lib.hid (fun h0=>h.vers.cap h0)
 unfold ixV at KK
 unfold stV mdV at *
 generalize lstM m r k=R at HL ⊢
 generalize kidsM m r=K at *
 clear h
 go_enter Tryz.func211,Tryz.ntmps211
 obtain ⟨y0,y1,y2,y3,y4,y5⟩:=HB.out.y
 go_wp2_with fail
 (with_reducible refine (KK.out _ HB.out).mono ?_)
 rintro e w3 ⟨v3,rfl,o3,g3⟩
 have HB3:=Lib.hid (HB.out.below g3)
 have R3:=Lib.hid (RowIn.own o3)
 obtain ⟨a,c,rfl,hc,_⟩:=R3.out.len
 have HR:=Lib.hid (fun (wx:World) (g:Below w3.heap.size w3 wx)=>(R3.out.below g).len)
 clear y0 y1 y2 y3 y4 y5 HB o3 g3 KK R3
 obtain ⟨n,hn⟩:∃ n,K.length=n:=⟨_,rfl⟩
 have HN:=Lib.hid hn
 rw [hn] at hlen hc ⊢
 clear hn
 go_wp2_with fail
 go_loopw [8] (fun i wr=>∃ k':Nat,k'≤n∧i=.int .i64 k'∧Below w3.heap.size w3 wr∧∀ j (hj:j<K.length),j<k'→(kdA m K[j] == k)=false) (fun i _=>n - (intOf i).toNat)
 case atStart=>exact ⟨0,by omega,rfl,Below.refl _ _,fun j _ hj=>by omega⟩
 case round =>
  obtain ⟨wo,rfl⟩:∃ wo:World,wo=wr:=⟨_,rfl⟩
  obtain ⟨i,hi,rfl,hb,hno⟩:=hrel
  have HBo:=Lib.hid hb
  have HSo:=Lib.hid (HB3.out.below hb)
  have HNo:=Lib.hid hno
  clear hb hno
  by_cases hlt:i<n
  · have hil:i<K.length:=by rw [HN.out];exact hlt
    obtain ⟨a',c',e,_,q⟩:=HR.out wo HBo.out
    obtain ⟨b1,o1,ea,hbl,hcl⟩:=q i hil
    simp only [Value.slice.injEq] at e
    obtain ⟨rfl,e',rfl⟩:=e
    clear e'
    subst ea
    have hI:(i:Int)<(n:Int):=by omega
    have hI0:(0:Int)≤(i:Int):=by omega
    obtain ⟨v,hv,ev⟩:=HIn.out i hil
    obtain ⟨b2,o2,e4,hb2,r1⟩:=HV.out wo HSo.out v hv
    have hcv:=hcapv.out (by omega)
    obtain ⟨x0,x1,x2,x3,x4,x5,_⟩:=HSo.out.mb.box
    rw [e4] at x4
    have HS:Hid (∀ b,(m.vers[v].kd == k)=b→(b=true→K.find? (fun v=>kdA m v == k)=some (v:Int))∧(b=false→∀ j (hj:j<K.length),j<i+1→(kdA m K[j] == k)=false)):=fun b hb=>⟨fun ht=>by
        have:=find_first (P:=fun v=>kdA m v == k) hil (by rw [ev,kdA_at hv,hb,ht]) HNo.out
        rw [ev] at this;exact this,fun hf j hj hji=>by
      by_cases e:j=i
      · subst e;rw [ev,kdA_at hv,hb,hf]
      · exact HNo.out j hj (by omega)⟩
    rw [ev] at hcl
    have hvI:(v:Int)<(m.vers.length:Int):=by omega
    have hvI0:(0:Int)≤(v:Int):=by omega
    obtain ⟨x,hx⟩:∃ x,m.vers[v].kd=x:=⟨_,rfl⟩
    rw [hx] at r1 HS
    obtain ⟨b,hb⟩:∃ b,(x == k)=b:=⟨_,rfl⟩
    have HSb:=Lib.hid (HS.out b hb)
    have hbI:(((x:Int) == (k:Int)):Bool)=b:=by
      rw [← hb,Bool.eq_iff_iff,beq_iff_eq,beq_iff_eq];omega
    clear q hb HS ev e4 hx
    cases b with
    | true =>
     have hE:Hid (R=(v:Int)):=Lib.hid (by rw [HL.out,HSb.out.1 rfl];rfl)
     clear HSb
     go_wp2_with fail
     go_quiet (fail)
     go_wp2_with fail
     go_ret
     exact ⟨by rw [hE.out];first | done | rfl,(HSo.out.below (below_drewN (Below.refl _ _) _)).mb.bel⟩
    | false =>
     have hF:=Lib.hid (HSb.out.2 rfl)
     clear HSb
     go_wp2_with fail
     go_quiet (fail)
     go_wp2_with fail
     go_roundw
     case rel=>exact ⟨i+1,by omega,by go_num,below_drewN HBo.out _,hF.out⟩
     case measure=>simp [intOf] <;> omega
  · have hE:Hid (R=-1):=Lib.hid (by
      rw [HL.out,List.find?_eq_none.2 (fun x hx=>by
        obtain ⟨j,hj,rfl⟩:=List.getElem_of_mem hx
        rw [HNo.out j hj (by have:=HN.out;omega)];simp)];rfl)
    go_wp2_with fail
    go_ret
    exact ⟨by rw [hE.out];first | done | rfl,HSo.out.mb.bel⟩
theorem Mc.madeR {Q:Nat→BP} {m:MdlD} {p:Ph} {la ll:List Int} {a1 a2:Option Addr} {c1 c2:Nat} {w:World} (h:Mod Q w m p) (h1:RowIn w (.slice a1 la.length c1) la) (h2:RowIn w (.slice a2 ll.length c2) ll) :
   Mc m p la ll a1 a2 c1 c2 w ((w.alloc (.cells #[.string m.nm,.slice p.a1 m.vars.length p.c1,.slice p.a2 m.evs.length p.c2,.slice p.a3 m.regs.length p.c3,.slice p.a4 m.vers.length p.c4,.slice p.a5 m.trns.length p.c5] 60)).alloc (.cells #[.slice a1 la.length c1,.slice a2 ll.length c2] 150)) :=
 ⟨(Mb.madeT h _).below (below_al1 _ _),by simp,by simp,by simp,h1.below (below_al2 w _ _),h2.below (below_al2 w _ _)⟩
structure Rs (m:MdlD) (p:Ph) (la ll:List Int) (a1 a2:Option Addr) (c1 c2 H:Nat) (w wx:World):Prop where
 mc:Mc m p la ll a1 a2 c1 c2 w wx
 s0:wx.cell? ⟨H,0,none⟩=some (.string m.nm)∧wx.cell? ⟨H,1,none⟩=some (.slice p.a1 m.vars.length p.c1)∧wx.cell? ⟨H,2,none⟩=some (.slice p.a2 m.evs.length p.c2)∧wx.cell? ⟨H,3,none⟩=some (.slice p.a3 m.regs.length p.c3)∧wx.cell? ⟨H,4,none⟩=some (.slice p.a4 m.vers.length p.c4)∧wx.cell? ⟨H,5,none⟩=some (.slice p.a5 m.trns.length p.c5)
 s6:wx.cell? ⟨H,6,none⟩=some (.string m.nm)∧wx.cell? ⟨H,7,none⟩=some (.slice p.a1 m.vars.length p.c1)∧wx.cell? ⟨H,8,none⟩=some (.slice p.a2 m.evs.length p.c2)∧wx.cell? ⟨H,9,none⟩=some (.slice p.a3 m.regs.length p.c3)∧wx.cell? ⟨H,10,none⟩=some (.slice p.a4 m.vers.length p.c4)∧wx.cell? ⟨H,11,none⟩=some (.slice p.a5 m.trns.length p.c5)
 lt:H<wx.heap.size
theorem Rs.below {m:MdlD} {p:Ph} {la ll:List Int} {a1 a2:Option Addr} {c1 c2 H:Nat} {w wx wy:World} (h:Rs m p la ll a1 a2 c1 c2 H w wx) (g:Below wx.heap.size wx wy):Rs m p la ll a1 a2 c1 c2 H w wy:=by
 obtain ⟨x0,x1,x2,x3,x4,x5⟩:=h.s0
 obtain ⟨y0,y1,y2,y3,y4,y5⟩:=h.s6
 have hl:=h.lt
 exact ⟨h.mc.below g,⟨(g.cell (p:=⟨H,0,none⟩) hl).trans x0,(g.cell (p:=⟨H,1,none⟩) hl).trans x1,(g.cell (p:=⟨H,2,none⟩) hl).trans x2,(g.cell (p:=⟨H,3,none⟩) hl).trans x3,(g.cell (p:=⟨H,4,none⟩) hl).trans x4,(g.cell (p:=⟨H,5,none⟩) hl).trans x5⟩,
   ⟨(g.cell (p:=⟨H,6,none⟩) hl).trans y0,(g.cell (p:=⟨H,7,none⟩) hl).trans y1,(g.cell (p:=⟨H,8,none⟩) hl).trans y2,(g.cell (p:=⟨H,9,none⟩) hl).trans y3,(g.cell (p:=⟨H,10,none⟩) hl).trans y4,(g.cell (p:=⟨H,11,none⟩) hl).trans y5⟩,Nat.lt_of_lt_of_le hl g.size⟩
theorem Rs.made {m:MdlD} {p:Ph} {la ll:List Int} {a1 a2:Option Addr} {c1 c2:Nat} {w wx:World} (h:Mc m p la ll a1 a2 c1 c2 w wx):Rs m p la ll a1 a2 c1 c2 wx.heap.size w (wx.alloc (.cells #[.string m.nm,.slice p.a1 m.vars.length p.c1,.slice p.a2 m.evs.length p.c2,.slice p.a3 m.regs.length p.c3,.slice p.a4 m.vers.length p.c4,.slice p.a5 m.trns.length p.c5,.string m.nm,.slice p.a1 m.vars.length p.c1,.slice p.a2 m.evs.length p.c2,.slice p.a3 m.regs.length p.c3,.slice p.a4 m.vers.length p.c4,.slice p.a5 m.trns.length p.c5] 168)) :=
 ⟨h.below (below_al1 _ _),by simp,by simp,by simp⟩
theorem info_FaultR:(Tryz.prog.info? 165).map (fun i=>(i.zero,i.size,i.bytes))=some (some (.agg #[.int .u8 0,.int .i64 0]),2,16):=by kernel_rfl
def RCheckP (m:MdlD) (la ll:List Int) (w:World) (e:Ending) (w':World):Prop:=∃ v,e=.returned (.tuple #[v,.int .i64 (chkE m la ll:Int)])∧Below w.heap.size w w'∧((chkE m la ll≠0∧v=.slice none 0 0)∨(chkE m la ll=0∧w'.ownsRow w.heap.size 165 2 v (fltF m la m.regs.length).length (fauV (fltF m la m.regs.length))))
set_option maxRecDepth 100000 in
set_option maxHeartbeats 4000000 in
theorem rcheck_any {Q:Nat→BP} (m:MdlD) (p:Ph) (la ll:List Int) (a1 a2:Option Addr) (c1 c2:Nat) (w:World) (h:Mod Q w m p) (hm:MdlOk m) (h1:RowIn w (.slice a1 la.length c1) la) (h2:RowIn w (.slice a2 ll.length c2) ll) (b1:la.length≤1000000) (b2:ll.length≤1000000)
   (hv:m.vers.length≤512) (hr:m.regs.length≤512) :
   Calls Tryz.prog 118 #[mdV m p,.agg #[.slice a1 la.length c1,.slice a2 ll.length c2]] w (RCheckP m la ll w):=by
 obtain ⟨iF,hiF,zF0,zF1,zF2⟩:=info_parts info_FaultR
 have HC:=Lib.hid (Mc.madeR h h1 h2)
 have RR:=Lib.hid (fun wx (g:Mc m p la ll a1 a2 c1 c2 w wx)=>rright_any m p wx g.mb.mod hm)
 have OF:=Lib.hid (fun wx=>sof_any m p wx)
 have FT:=Lib.hid (fun (h0:riM m=(0,0,0)) wx (g:Mc m p la ll a1 a2 c1 c2 w wx)=>sfits_any m p la ll a1 a2 c1 c2 wx g.mb.mod h0 g.r1 g.r2 b1 b2 (by omega) (by omega))
 have BK:=Lib.hid (fun (h0:riM m=(0,0,0)) (hl:la.length=m.regs.length) wx (g:Mc m p la ll a1 a2 c1 c2 w wx) (k:Nat) (hk:k<m.regs.length)=>srule_any m p la ll a1 a2 c1 c2 k wx g.mb.mod h0 g.r1 hl hk (by omega) (by omega))
 have HE:Hid (∀ c,chkE m la ll=c↔(if (riM m).2.2=0 then (if fit2 m la ll then 0 else 2) else (riM m).2.2)=c):=Lib.hid fun c=>Iff.rfl
 have HF1:Hid (fit2 m la ll=true→la.length=m.regs.length):=Lib.hid fun hf=>by unfold fit2 at hf;rw [Bool.and_eq_true] at hf;exact fit1_len' hf.1
 unfold mdV at RR OF ⊢
 unfold stV at OF FT BK
 unfold RCheckP
 generalize chkE m la ll=C at *
 clear h hm h1 h2 b1 b2 hv
 go_enter Tryz.func118,Tryz.ntmps118
 obtain ⟨x0,x1,x2,x3,x4,x5,_⟩:=HC.out.mb.box
 go_wp2_with fail
 (with_reducible refine (RR.out _ HC.out).mono ?_)
 rintro e w3 ⟨rfl,g3⟩
 have HC3:=Lib.hid (HC.out.below g3)
 clear x0 x1 x2 x3 x4 x5 HC g3 RR
 by_cases hz:(riM m).2.2=0
 · have h0:=riM_ok hz
   have HE0:=Lib.hid (fun b (hb:fit2 m la ll=b)=>(HE.out (if b then 0 else 2)).2 (by rw [if_pos hz,hb]))
   have FT0:=Lib.hid (FT.out h0)
   have BK0:=Lib.hid (BK.out h0)
   rw [hz]
   clear HE FT BK h0 hz
   obtain ⟨x0,x1,x2,x3,x4,x5,_⟩:=HC3.out.mb.box
   go_wp2_with fail
   (with_reducible refine (OF.out _).mono ?_)
   rintro e w4 ⟨rfl,g4⟩
   have HS:Hid (Rs m p la ll a1 a2 c1 c2 w4.heap.size w (w4.alloc (.cells #[.string m.nm,.slice p.a1 m.vars.length p.c1,.slice p.a2 m.evs.length p.c2,.slice p.a3 m.regs.length p.c3,.slice p.a4 m.vers.length p.c4,.slice p.a5 m.trns.length p.c5,.string m.nm,.slice p.a1 m.vars.length p.c1,.slice p.a2 m.evs.length p.c2,.slice p.a3 m.regs.length p.c3,.slice p.a4 m.vers.length p.c4,.slice p.a5 m.trns.length p.c5] 168))):=Lib.hid (Rs.made (HC3.out.below g4))
   clear x0 x1 x2 x3 x4 x5 HC3 g4 OF
   have d0:=HS.out.mc.d0
   have d1:=HS.out.mc.d1
   obtain ⟨f,hf⟩:∃ f,fit2 m la ll=f:=⟨_,rfl⟩
   have FTs:=Lib.hid (FT0.out _ HS.out.mc)
   rw [hf] at FTs HF1
   have HEf:=Lib.hid (HE0.out f hf)
   clear hf HE0 FT0
   cases f with
   | false =>
    have hC:Hid (C=2):=Lib.hid HEf.out
    clear HEf HF1 BK0
    go_wp2_with fail
    (with_reducible refine (FTs.out).mono ?_)
    rintro e w5 ⟨rfl,g5⟩
    have HS5:=Lib.hid (HS.out.below g5)
    go_wp2_with fail
    refine bodyPost_ret (results_tmp2 rfl _ _ _) rfl ⟨.slice none 0 0,?_,HS5.out.mc.mb.bel,.inl ⟨by rw [hC.out];decide,rfl⟩⟩
    rw [hC.out];first | done | rfl
   | true =>
    have hC:C=0:=HEf.out
    have HB0:=Lib.hid (BK0.out (HF1.out rfl))
    subst hC
    clear HEf HF1 BK0
    go_wp2_with fail
    (with_reducible refine (FTs.out).mono ?_)
    rintro e w5 ⟨rfl,g5⟩
    have HS5:=Lib.hid (HS.out.below g5)
    clear d0 d1 g5 HS FTs
    go_wp2_with fail
    go_loopw [10,11] (fun v i wr=>∃ k:Nat,k≤m.regs.length∧i=.int .i64 k∧Below w5.heap.size w5 wr∧wr.ownsRow w5.heap.size 165 2 v (fltF m la k).length (fauV (fltF m la k))) (fun _ i _=>m.regs.length - (intOf i).toNat)
    case atStart=>exact ⟨0,by omega,rfl,Below.refl _ _,World.ownsRow_nil _ _ _ _⟩
    case round =>
     obtain ⟨wo,rfl⟩:∃ wo:World,wo=wr:=⟨_,rfl⟩
     obtain ⟨k,hk,rfl,hb,ho⟩:=hrel
     have HB:=Lib.hid hb
     have HO:=Lib.hid ho
     have HSo:=Lib.hid (HS5.out.below hb)
     have hzo:w5.heap.size≤wo.heap.size:=hb.size
     clear hb ho
     obtain ⟨x0,x1,x2,x3,x4,x5,_⟩:=HSo.out.mc.mb.box
     by_cases hlt:k<m.regs.length
     · have hI:(k:Int)<(m.regs.length:Int):=by omega
       have HBk:=Lib.hid (HB0.out wo HSo.out.mc k hlt)
       have HSn:=Lib.hid (fltF_succ m la k)
       have hrl:=rule_le m la k
       obtain ⟨y0,y1,y2,y3,y4,y5⟩:=HSo.out.s0
       obtain ⟨z0,z1,z2,z3,z4,z5⟩:=HSo.out.s6
       have d0:=HSo.out.mc.d0
       have d1:=HSo.out.mc.d1
       generalize ruleM m la k=ρ at HBk HSn hrl
       have HL:=Lib.hid (fltF_len m la k)
       by_cases hρ:ρ=0
       · subst hρ
         have HSm:Hid (fltF m la (k+1)=fltF m la k):=Lib.hid (by rw [HSn.out];simp)
         go_wp2_with fail
         (with_reducible refine (HBk.out).mono ?_)
         rintro e w6 ⟨rfl,g6⟩
         have HO6:=Lib.hid (own_below HO.out g6)
         go_wp2_with fail
         go_roundw
         case rel=>exact ⟨k+1,by omega,by go_num,below_ch HB.out g6,by rw [HSm.out];exact HO6.out⟩
         case measure=>simp [intOf] <;> omega
       · have HSm:Hid (fltF m la (k+1)=fltF m la k ++ [(ρ,k)]):=Lib.hid (by rw [HSn.out,if_neg hρ])
         have d2:(0:Int)<(ρ:Int):=by omega
         have HLn:Hid ((fltF m la k).length≤512):=Lib.hid (by have:=HL.out;omega)
         clear HSn HL hρ
         go_wp2_with fail
         (with_reducible refine (HBk.out).mono ?_)
         rintro e w6 ⟨rfl,g6⟩
         have HO6:=Lib.hid (own_below HO.out g6)
         have HB6:=Lib.hid (below_ch HB.out g6)
         have hz6:w5.heap.size≤w6.heap.size:=HB6.out.size
         clear g6
         go_wp2_with (at_builtin;refine wpList_append_own _ rfl _ _ 152 rfl w5.heap.size 165 iF _ 2 16 Tryz.underlying152 hiF zF0 zF1 zF2 rfl (by decide) _ _ _ rfl (HO6.out.alloc _) ⟨w6.heap.size,0,none⟩ 1 1 [.int .u8 (ρ:Int),.int .i64 (k:Int)] rfl rfl (World.news_of_block (cs:=#[.int .u8 (ρ:Int),.int .i64 (k:Int)]) (t:=165) (fr:=(0,0)) (alloc1_at w6 _)) (by simp [Value.oneCell']) (by have:=HLn.out;unfold maxLen;omega) (by have:=HLn.out;omega) (by simp;omega) ?_;intro v7 w7 hown7 hgrow7 _)
         have HB7:Hid (Below w5.heap.size w5 w7):=Lib.hid ((HB6.out.alloc hz6 _).grown hgrow7 (by simp;omega) fun q hq=>(HO6.out.lt q hq).1)
         have HO7:Hid (w7.ownsRow w5.heap.size 165 2 v7 (fltF m la (k+1)).length (fauV (fltF m la (k+1)))):=Lib.hid (by
           rw [HSm.out,fauV_snoc,List.length_append];exact hown7)
         clear hown7 hgrow7
         go_roundw
         case rel=>exact ⟨k+1,by omega,by go_num,HB7.out,HO7.out⟩
         case measure=>simp [intOf] <;> omega
     · obtain rfl:k=m.regs.length:=by omega
       go_wp2_with fail
       refine bodyPost_ret (results_tmp2 rfl _ _ _) rfl ⟨_,?_,HSo.out.mc.mb.bel,by have hh:=HO.out.mono (base':=w.heap.size) (by have:=HS5.out.mc.mb.bel.size;omega);first | exact .inr ⟨rfl,hh⟩ | exact hh⟩
       first | done | rfl
 · have hz1:(((riM m).2.2:Int) != 0)=true:=by simp only [bne_iff_ne,ne_eq];omega
   have hC:Hid (C=(riM m).2.2):=Lib.hid ((HE.out _).2 (if_neg hz))
   have HZ:=Lib.hid hz
   clear BK hz HE FT OF
   go_wp2_with fail
   refine bodyPost_ret (results_tmp2 rfl _ _ _) rfl ⟨.slice none 0 0,?_,HC3.out.mb.bel,.inl ⟨by rw [hC.out];exact HZ.out,rfl⟩⟩
   rw [hC.out];first | done | rfl
set_option maxRecDepth 100000 in
set_option maxHeartbeats 2000000 in
theorem rlegal_any {Q:Nat→BP} (m:MdlD) (p:Ph) (la ll:List Int) (a1 a2:Option Addr) (c1 c2:Nat) (w:World) (h:Mod Q w m p) (hm:MdlOk m) (h1:RowIn w (.slice a1 la.length c1) la) (h2:RowIn w (.slice a2 ll.length c2) ll) (b1:la.length≤1000000) (b2:ll.length≤1000000)
   (hv:m.vers.length≤512) (hr:m.regs.length≤512) :
   Calls Tryz.prog 124 #[mdV m p,.agg #[.slice a1 la.length c1,.slice a2 ll.length c2]] w fun e w'=>e=.returned (.bool (legB m la ll))∧Below w.heap.size w w':=by
 have HC:=Lib.hid (Mc.madeR h h1 h2)
 have FT:=Lib.hid (fun wx (g:Mc m p la ll a1 a2 c1 c2 w wx)=>rcheck_any m p la ll a1 a2 c1 c2 wx g.mb.mod hm g.r1 g.r2 b1 b2 hv hr)
 have HE:Hid (∀ b,legB m la ll=b↔(chkE m la ll == 0 && legM m la)=b):=Lib.hid fun b=>Iff.rfl
 unfold RCheckP at FT
 unfold mdV at FT ⊢
 generalize legB m la ll=R at HE ⊢
 generalize chkE m la ll=C at *
 clear h hm h1 h2 b1 b2 hv hr
 go_enter Tryz.func124,Tryz.ntmps124
 obtain ⟨x0,x1,x2,x3,x4,x5,_⟩:=HC.out.mb.box
 go_wp2_with fail
 (with_reducible refine (FT.out _ HC.out).mono ?_)
 rintro e w3 ⟨v,rfl,g3,(⟨hc,rfl⟩ | ⟨rfl,ho⟩)⟩
 · have HC3:=Lib.hid (HC.out.below g3)
   have hR:Hid (R=false):=Lib.hid ((HE.out false).2 (by simp [hc]))
   have hz1:((C:Int) == 0)=false:=by simp only [beq_eq_false_iff_ne,ne_eq];omega
   clear x0 x1 x2 x3 x4 x5 HC g3 FT HE hc
   go_wp2_with fail
   go_ret
   exact ⟨by rw [hR.out];first | done | rfl,HC3.out.mb.bel⟩
 · have HC3:=Lib.hid (HC.out.below g3)
   obtain ⟨a,c,rfl⟩:∃ a c,v=.slice a (fltF m la m.regs.length).length c:=by
     rcases ho.2 with ⟨e,h0⟩ | ⟨g,cap,_,e,_⟩
     · exact ⟨none,0,by rw [e,h0]⟩
     · exact ⟨_,_,e⟩
   have hN:=fltF_nil m la
   generalize (fltF m la m.regs.length).length=n at hN
   by_cases hn:n=0
   · subst hn
     have hR:Hid (R=true):=Lib.hid ((HE.out true).2 (by rw [hN.1 rfl];rfl))
     clear x0 x1 x2 x3 x4 x5 HC g3 FT HE ho hN
     go_wp2_with fail
     go_ret
     exact ⟨by rw [hR.out];first | done | rfl,HC3.out.mb.bel⟩
   · have hR:Hid (R=false):=Lib.hid ((HE.out false).2 (by
       cases hl:legM m la with
       | false=>rfl
       | true=>exact absurd (hN.2 hl) hn))
     have hz1:((n:Int) == 0)=false:=by simp only [beq_eq_false_iff_ne,ne_eq];omega
     clear x0 x1 x2 x3 x4 x5 HC g3 FT HE ho hN hn
     go_wp2_with fail
     go_ret
     exact ⟨by rw [hR.out];first | done | rfl,HC3.out.mb.bel⟩
end Go.Proofs
