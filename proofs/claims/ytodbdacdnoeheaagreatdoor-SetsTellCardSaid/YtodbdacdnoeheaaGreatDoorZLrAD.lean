/- Walks: the document's sets: Of, Vertex, row, Fits. -/
import Derived.Test.YtodbdacdnoeheaaGreatDoorZLgAE
import Derived.Test.YtodbdacdnoeheaaGreatDoorZRyAB
namespace Go.Proofs
open Go.RowKit Go.Lx Go.Md Go.Shelf Go.BigFrame Go.Rgi
set_option linter.unusedVariables false
def stV (m:MdlD) (p:Ph):Value:=.agg #[.string m.nm,.slice p.a1 m.vars.length p.c1,.slice p.a2 m.evs.length p.c2,.slice p.a3 m.regs.length p.c3,.slice p.a4 m.vers.length p.c4,.slice p.a5 m.trns.length p.c5,.string m.nm,.slice p.a1 m.vars.length p.c1,.slice p.a2 m.evs.length p.c2,.slice p.a3 m.regs.length p.c3,.slice p.a4 m.vers.length p.c4,.slice p.a5 m.trns.length p.c5]
structure Sb (m:MdlD) (p:Ph) (H:Nat) (w wx:World):Prop where
 mb:Mb m p H w wx
 y:wx.cell? ⟨H,6,none⟩=some (.string m.nm)∧wx.cell? ⟨H,7,none⟩=some (.slice p.a1 m.vars.length p.c1)∧wx.cell? ⟨H,8,none⟩=some (.slice p.a2 m.evs.length p.c2)∧wx.cell? ⟨H,9,none⟩=some (.slice p.a3 m.regs.length p.c3)∧wx.cell? ⟨H,10,none⟩=some (.slice p.a4 m.vers.length p.c4)∧wx.cell? ⟨H,11,none⟩=some (.slice p.a5 m.trns.length p.c5)
theorem Sb.below {m:MdlD} {p:Ph} {H:Nat} {w wx wy:World} (h:Sb m p H w wx) (g:Below wx.heap.size wx wy):Sb m p H w wy:=by
 obtain ⟨y0,y1,y2,y3,y4,y5⟩:=h.y
 have hl:=h.mb.box.sl
 exact ⟨h.mb.below g,(g.cell (p:=⟨H,6,none⟩) hl).trans y0,(g.cell (p:=⟨H,7,none⟩) hl).trans y1,(g.cell (p:=⟨H,8,none⟩) hl).trans y2,(g.cell (p:=⟨H,9,none⟩) hl).trans y3,(g.cell (p:=⟨H,10,none⟩) hl).trans y4,(g.cell (p:=⟨H,11,none⟩) hl).trans y5⟩
theorem Sb.made {Q:Nat→BP} {m:MdlD} {p:Ph} {w:World} (h:Mod Q w m p):Sb m p w.heap.size w (w.alloc (.cells #[.string m.nm,.slice p.a1 m.vars.length p.c1,.slice p.a2 m.evs.length p.c2,.slice p.a3 m.regs.length p.c3,.slice p.a4 m.vers.length p.c4,.slice p.a5 m.trns.length p.c5,.string m.nm,.slice p.a1 m.vars.length p.c1,.slice p.a2 m.evs.length p.c2,.slice p.a3 m.regs.length p.c3,.slice p.a4 m.vers.length p.c4,.slice p.a5 m.trns.length p.c5] 48)):=by
 refine ⟨⟨below_al1 w _,(h.weaken fun _ _ h _=>h).below (below_al1 w _),?_⟩,?_⟩
 · constructor <;> simp
 · simp
set_option maxRecDepth 100000 in
set_option maxHeartbeats 2000000 in
theorem sof_any (m:MdlD) (p:Ph) (w:World):Calls Tryz.prog 61 #[mdV m p] w fun e w'=>e=.returned (stV m p)∧Below w.heap.size w w':=by
 unfold mdV stV
 go_enter Tryz.func61,Tryz.ntmps61
 go_wp2_with fail
 refine bodyPost_ret (v:=.agg #[.string m.nm,.slice p.a1 m.vars.length p.c1,.slice p.a2 m.evs.length p.c2,.slice p.a3 m.regs.length p.c3,.slice p.a4 m.vers.length p.c4,.slice p.a5 m.trns.length p.c5,.string m.nm,.slice p.a1 m.vars.length p.c1,.slice p.a2 m.evs.length p.c2,.slice p.a3 m.regs.length p.c3,.slice p.a4 m.vers.length p.c4,.slice p.a5 m.trns.length p.c5]) (by simp [results,Tryz.results61,go_sem]) rfl ⟨rfl,below_al2 w _ _⟩
set_option maxRecDepth 100000 in
set_option maxHeartbeats 2000000 in
theorem svertex_any {Q:Nat→BP} (m:MdlD) (p:Ph) (v:Int) (w:World) (h:Mod Q w m p) (hvl:m.vers.length≤100000) :
   Calls Tryz.prog 73 #[stV m p,.int .i64 v] w fun e w'=>e=.returned (.bool (stands m v))∧Below w.heap.size w w':=by
 have HB:=Lib.hid (Sb.made h)
 unfold stV
 cases hv:hasV m v with
 | false =>
  have hp:stands m v=false:=by unfold stands;rw [hv];rfl
  rw [hp]
  unfold hasV at hv
  clear h hp
  by_cases h1:0≤v
  · have h2:¬ (v<m.vers.length):=by simp [h1] at hv;omega
    clear hv
    go_enter Tryz.func73,Tryz.ntmps73
    go_wp2_with fail
    go_ret
    exact ⟨rfl,below_al1 w _⟩
  · clear hv
    go_enter Tryz.func73,Tryz.ntmps73
    go_wp2_with fail
    go_ret
    exact ⟨rfl,below_al1 w _⟩
 | true =>
  obtain ⟨k,rfl,hk⟩:=hasV_yes hv
  rw [stands_at hk]
  obtain ⟨b2,o2,ea,hb2,dv,hdv,r0,r1,_⟩:=h.vers.get hk
  have hcap:=h.vers.cap (by omega)
  obtain ⟨x,hx⟩:∃ x,m.vers[k].kd=x:=⟨_,rfl⟩
  rw [hx] at r1 ⊢
  rw [ea]
  have h1:(0:Int)≤(k:Int):=by omega
  have h2:(k:Int)<(m.vers.length:Int):=by omega
  clear h hv ea hdv r0 hx HB
  cases d1:(x == 1) with
  | true =>
   have e1:((x:Int) == 1)=true:=by simp at d1 ⊢;omega
   go_enter Tryz.func73,Tryz.ntmps73
   go_wp2_with fail
   go_ret
   exact ⟨rfl,below_al1 w _⟩
  | false =>
   have e1:((x:Int) == 1)=false:=by simp at d1 ⊢;omega
   cases d2:(x == 2) with
   | true =>
    have e2:((x:Int) == 2)=true:=by simp at d2 ⊢;omega
    go_enter Tryz.func73,Tryz.ntmps73
    go_wp2_with fail
    go_ret
    exact ⟨rfl,below_al1 w _⟩
   | false =>
    have e2:((x:Int) == 2)=false:=by simp at d2 ⊢;omega
    go_enter Tryz.func73,Tryz.ntmps73
    go_wp2_with fail
    go_ret
    exact ⟨rfl,below_al1 w _⟩
theorem ofKd_stands (m:MdlD) (v:Int):ofKd m [1,2] v=stands m v:=by
 unfold ofKd
 cases hb:hasV m v with
 | false=>unfold stands;rw [hb];rfl
 | true =>
  obtain ⟨k,rfl,hk⟩:=hasV_nat hb
  rw [stands_at hk,kdA_at hk]
  unfold hasN;simp
theorem may_home {m:MdlD} (h0:riM m=(0,0,0)) {v r:Int} (hv:v≠-1):mayM m v r=(stands m v && homeM m v == r):=by
 rw [may_split h0 hv,ofKd_stands]
set_option maxRecDepth 100000 in
set_option maxHeartbeats 4000000 in
theorem srow_any {Q:Nat→BP} (m:MdlD) (p:Ph) (l:List Int) (lv:Value) (w:World) (h:Mod Q w m p) (h0:riM m=(0,0,0)) (hr:RowIn w lv l) (hl:l.length≤1000000) (hvl:m.vers.length≤100000) (hrl:m.regs.length≤100000) :
   Calls Tryz.prog 82 #[stV m p,lv] w fun e w'=>e=.returned (.bool (fit1 m l))∧Below w.heap.size w w':=by
 have HB:=Lib.hid (Sb.made h)
 have HV:=Lib.hid (fun wx (g:Sb m p w.heap.size w wx) (v:Int)=>svertex_any m p v wx g.mb.mod hvl)
 have HGr:=Lib.hid (fun wx (g:Sb m p w.heap.size w wx) (v:Int)=>rhome16_any m p v wx g.mb.mod h0 (by omega))
 have HR:=Lib.hid (fun (wx:World) (g:Below w.heap.size w wx)=>(hr.below g).len)
 have MH:=Lib.hid (fun (v r:Int) (hv:v≠-1)=>may_home h0 (r:=r) hv)
 obtain ⟨a,c,rfl,hc,_⟩:=hr.len
 unfold ixV at HGr
 unfold stV mdV at *
 clear h h0 hr
 by_cases hn:l.length=m.regs.length
 · have hd:((l.length:Int) != (m.regs.length:Int))=false:=by simp only [bne_eq_false_iff_eq];omega
   have HFit:=Lib.hid (fun hh=>fit1_all (m:=m) (l:=l) hn hh)
   obtain ⟨n,hn2⟩:∃ n,l.length=n:=⟨_,rfl⟩
   have HN:=Lib.hid hn2
   rw [hn2] at hl hc hd ⊢
   clear hn hn2
   go_enter Tryz.func82,Tryz.ntmps82
   obtain ⟨x0,x1,x2,x3,x4,x5,_⟩:=HB.out.mb.box
   go_wp2_with fail
   clear x0 x1 x2 x3 x4 x5
   go_loopw [5] (fun i wr=>∃ k:Nat,k≤n∧i=.int .i64 k∧Sb m p w.heap.size w wr∧∀ j,j<k→mayM m (l.getD j (-1)) j=true) (fun i _=>n - (intOf i).toNat)
   case atStart=>exact ⟨0,by omega,rfl,HB.out,fun j hj=>by omega⟩
   case round =>
    obtain ⟨wo,rfl⟩:∃ wo:World,wo=wr:=⟨_,rfl⟩
    obtain ⟨k,hk,rfl,hb,hno⟩:=hrel
    have HBo:=Lib.hid hb
    have HNo:=Lib.hid hno
    clear hb hno HB
    by_cases hlt:k<n
    · have hkl:k<l.length:=by rw [HN.out];exact hlt
      obtain ⟨a',c',e,_,q⟩:=HR.out wo HBo.out.mb.bel
      obtain ⟨b1,o1,ea,hbl1,hc1⟩:=q k hkl
      simp only [Value.slice.injEq] at e
      obtain ⟨rfl,e',rfl⟩:=e
      clear e'
      subst ea
      have hI:(k:Int)<(n:Int):=by omega
      have hI0:(0:Int)≤(k:Int):=by omega
      have hg:l.getD k (-1)=l[k]'hkl:=by rw [List.getD_eq_getElem?_getD,List.getElem?_eq_getElem hkl];rfl
      have HS:Hid (∀ b,mayM m (l.getD k (-1)) k=b→(b=true→∀ j,j<k+1→mayM m (l.getD j (-1)) j=true)∧(b=false→fit1 m l=false)):=fun b hb=>⟨fun ht j hj=>by
        by_cases e:j=k
        · subst e;rw [hb,ht]
        · exact HNo.out j (by omega),fun hf=>fit1_row hkl (by rw [hb,hf])⟩
      rw [hg] at HS
      obtain ⟨y,hy⟩:∃ y,l[k]'hkl=y:=⟨_,rfl⟩
      rw [hy] at hc1 HS
      have HC0:=Lib.hid (fun wx (g:Below wo.heap.size wo wx)=>HV.out wx (HBo.out.below g) y)
      have HG0:=Lib.hid (fun wx (g:Below wo.heap.size wo wx)=>HGr.out wx (HBo.out.below g) y)
      have HX:Hid (∀ W',Below wo.heap.size wo W'→(W'.cell? ⟨w.heap.size,0,none⟩=some (.string m.nm)∧W'.cell? ⟨w.heap.size,1,none⟩=some (.slice p.a1 m.vars.length p.c1)∧W'.cell? ⟨w.heap.size,2,none⟩=some (.slice p.a2 m.evs.length p.c2)∧W'.cell? ⟨w.heap.size,3,none⟩=some (.slice p.a3 m.regs.length p.c3)∧W'.cell? ⟨w.heap.size,4,none⟩=some (.slice p.a4 m.vers.length p.c4)∧W'.cell? ⟨w.heap.size,5,none⟩=some (.slice p.a5 m.trns.length p.c5))∧(W'.cell? ⟨w.heap.size,6,none⟩=some (.string m.nm)∧W'.cell? ⟨w.heap.size,7,none⟩=some (.slice p.a1 m.vars.length p.c1)∧W'.cell? ⟨w.heap.size,8,none⟩=some (.slice p.a2 m.evs.length p.c2)∧W'.cell? ⟨w.heap.size,9,none⟩=some (.slice p.a3 m.regs.length p.c3)∧W'.cell? ⟨w.heap.size,10,none⟩=some (.slice p.a4 m.vers.length p.c4)∧W'.cell? ⟨w.heap.size,11,none⟩=some (.slice p.a5 m.trns.length p.c5))∧W'.cell? ⟨b1,o1+k,none⟩=some (.int .i64 y)):=Lib.hid fun W' g=>by
        have hh:=HBo.out.below g
        obtain ⟨x0,x1,x2,x3,x4,x5,_⟩:=hh.mb.box
        exact ⟨⟨x0,x1,x2,x3,x4,x5⟩,hh.y,(g.cell (p:=⟨b1,o1+k,none⟩) hbl1).trans hc1⟩
      have hB0:Below wo.heap.size wo wo:=Below.refl _ _
      clear q hg hy HV HGr HR HNo HFit
      by_cases hy1:y=-1
      · have hd1:(y != -1)=false:=by rw [hy1];rfl
        have hT:=Lib.hid ((HS.out true (by rw [hy1];exact may_none m _)).1 rfl)
        clear HS HC0 HG0 MH hy1
        obtain ⟨x0,x1,x2,x3,x4,x5,_⟩:=HBo.out.mb.box
        go_wp2_with fail
        go_quiet (fail)
        go_wp2_with fail
        go_roundw
        case rel=>exact ⟨k+1,by omega,by go_num,HBo.out.below (below_drewN hB0 _),hT.out⟩
        case measure=>simp [intOf] <;> omega
      · have hd1:(y != -1)=true:=by simp only [bne_iff_ne,ne_eq];exact hy1
        have hM2:=MH.out y k hy1
        obtain ⟨st,hst⟩:∃ b,stands m y=b:=⟨_,rfl⟩
        obtain ⟨hm,hhm⟩:∃ b,homeM m y=b:=⟨_,rfl⟩
        rw [hst,hhm] at hM2
        have HC:Hid (∀ wx,Below wo.heap.size wo wx→Calls Tryz.prog 73 #[.agg #[.string m.nm,.slice p.a1 m.vars.length p.c1,.slice p.a2 m.evs.length p.c2,.slice p.a3 m.regs.length p.c3,.slice p.a4 m.vers.length p.c4,.slice p.a5 m.trns.length p.c5,.string m.nm,.slice p.a1 m.vars.length p.c1,.slice p.a2 m.evs.length p.c2,.slice p.a3 m.regs.length p.c3,.slice p.a4 m.vers.length p.c4,.slice p.a5 m.trns.length p.c5],.int .i64 y] wx fun e w'=>e=.returned (.bool st)∧Below wx.heap.size wx w'):=Lib.hid (by rw [← hst];exact HC0.out)
        have HG:Hid (∀ wx,Below wo.heap.size wo wx→Calls Tryz.prog 20 #[.agg #[.string m.nm,.slice p.a1 m.vars.length p.c1,.slice p.a2 m.evs.length p.c2,.slice p.a3 m.regs.length p.c3,.slice p.a4 m.vers.length p.c4,.slice p.a5 m.trns.length p.c5],.int .i64 y] wx fun e w'=>e=.returned (.int .i64 hm)∧Below wx.heap.size wx w'):=Lib.hid (by rw [← hhm];exact HG0.out)
        have HS1:=HX
        clear hst hhm HC0 HG0 MH hy1 HX
        cases st with
        | false =>
         have hF:=Lib.hid ((HS.out false (by rw [hM2];rfl)).2 rfl)
         clear HS hM2 HG
         go_wp2_with fail
         refine wp_region_any (by kernel_rfl) ?_
         change wpAny _ _ _ _ _ _ _ (World.drew _)
         refine wpAny_of_heldS (S:=(fun W'=>(W'.cell? ⟨w.heap.size,0,none⟩=some (.string m.nm)∧W'.cell? ⟨w.heap.size,1,none⟩=some (.slice p.a1 m.vars.length p.c1)∧W'.cell? ⟨w.heap.size,2,none⟩=some (.slice p.a2 m.evs.length p.c2)∧W'.cell? ⟨w.heap.size,3,none⟩=some (.slice p.a3 m.regs.length p.c3)∧W'.cell? ⟨w.heap.size,4,none⟩=some (.slice p.a4 m.vers.length p.c4)∧W'.cell? ⟨w.heap.size,5,none⟩=some (.slice p.a5 m.trns.length p.c5))∧(W'.cell? ⟨w.heap.size,6,none⟩=some (.string m.nm)∧W'.cell? ⟨w.heap.size,7,none⟩=some (.slice p.a1 m.vars.length p.c1)∧W'.cell? ⟨w.heap.size,8,none⟩=some (.slice p.a2 m.evs.length p.c2)∧W'.cell? ⟨w.heap.size,9,none⟩=some (.slice p.a3 m.regs.length p.c3)∧W'.cell? ⟨w.heap.size,10,none⟩=some (.slice p.a4 m.vers.length p.c4)∧W'.cell? ⟨w.heap.size,11,none⟩=some (.slice p.a5 m.trns.length p.c5))∧W'.cell? ⟨b1,o1+k,none⟩=some (.int .i64 y))) ?_ (fun hHeld=>?_)
         · (try dsimp only) <;> (first | exact HS1.out _ (by assumption) | exact HS1.out _ hB0.drew)
         refine tk 0 rfl ?_
         try simp only [Act.put,lyA,lyZ,lyS]
         refine tk 1 rfl ?_
         try simp only [Act.put,lyA,lyZ,lyS]
         refine tk 2 rfl ?_
         try simp only [Act.put,lyA,lyZ,lyS]
         refine tk 3 rfl ?_
         try simp only [Act.put,lyA,lyZ,lyS]
         refine tk 4 rfl ?_
         try simp only [Act.put,lyA,lyZ,lyS]
         refine tk 5 rfl ?_
         try simp only [Act.put,lyA,lyZ,lyS]
         refine tk 6 rfl ?_
         try simp only [Act.put,lyA,lyZ,lyS]
         refine tk 7 rfl ?_
         try simp only [Act.put,lyA,lyZ,lyS]
         refine tk 8 rfl ?_
         try simp only [Act.put,lyA,lyZ,lyS]
         refine tk 9 rfl ?_
         try simp only [Act.put,lyA,lyZ,lyS]
         refine tk 10 rfl ?_
         try simp only [Act.put,lyA,lyZ,lyS]
         refine rdy [11] ?_
         refine rdC rfl (fun K hK=>?_) ?_
         (go_simp;(with_reducible refine (HC.out _ hB0.drew).mono ?_);rintro e w3 ⟨rfl,hb3⟩;have hB3:=hB0.drew.trans hb3;go_wp2_with fail)
         refine hK.out _ _ ?_ (fun hH1=>?_)
         · (try dsimp only) <;> (first | exact HS1.out _ (by assumption) | exact HS1.out _ hB0.drew)
         clear hK K hHeld
         try simp only [Act.put,lyA,lyZ,lyS]
         refine tk 12 rfl ?_
         try simp only [Act.put,lyA,lyZ,lyS]
         refine tk 13 rfl ?_
         try simp only [Act.put,lyA,lyZ,lyS]
         refine tkP 14 rfl ?_
         try simp only [Act.put,lyA,lyZ,lyS]
         refine tkP 15 rfl ?_
         try simp only [Act.put,lyA,lyZ,lyS]
         refine tkP 16 rfl ?_
         try simp only [Act.put,lyA,lyZ,lyS]
         refine tkP 17 rfl ?_
         try simp only [Act.put,lyA,lyZ,lyS]
         refine tkP 18 rfl ?_
         try simp only [Act.put,lyA,lyZ,lyS]
         refine tkP 19 rfl ?_
         try simp only [Act.put,lyA,lyZ,lyS]
         refine tkP 20 rfl ?_
         try simp only [Act.put,lyA,lyZ,lyS]
         refine tkP 21 rfl ?_
         try simp only [Act.put,lyA,lyZ,lyS]
         refine tkP 22 rfl ?_
         try simp only [Act.put,lyA,lyZ,lyS]
         refine tk 23 rfl ?_
         try simp only [Act.put,lyA,lyZ,lyS]
         refine tk 24 rfl ?_
         try simp only [Act.put,lyA,lyZ,lyS]
         refine wpAnyH_done (by kernel_rfl) ?_ _
         rotate_left
         exact AllReadyH.nil
         all_goals
           go_wp2_with fail
           go_ret
           exact ⟨by rw [hF.out];rfl,(HBo.out.below hB3).mb.bel⟩
        | true =>
         rw [Bool.true_and] at hM2
         cases hq:(hm == (k:Int)) with
         | true =>
          have hq':(hm != (k:Int))=false:=by simp only [bne,hq];rfl
          have hT:=Lib.hid ((HS.out true (by rw [hM2,hq])).1 rfl)
          clear HS hM2 hq
          go_wp2_with fail
          refine wp_region_any (by kernel_rfl) ?_
          change wpAny _ _ _ _ _ _ _ (World.drew _)
          refine wpAny_of_heldS (S:=(fun W'=>(W'.cell? ⟨w.heap.size,0,none⟩=some (.string m.nm)∧W'.cell? ⟨w.heap.size,1,none⟩=some (.slice p.a1 m.vars.length p.c1)∧W'.cell? ⟨w.heap.size,2,none⟩=some (.slice p.a2 m.evs.length p.c2)∧W'.cell? ⟨w.heap.size,3,none⟩=some (.slice p.a3 m.regs.length p.c3)∧W'.cell? ⟨w.heap.size,4,none⟩=some (.slice p.a4 m.vers.length p.c4)∧W'.cell? ⟨w.heap.size,5,none⟩=some (.slice p.a5 m.trns.length p.c5))∧(W'.cell? ⟨w.heap.size,6,none⟩=some (.string m.nm)∧W'.cell? ⟨w.heap.size,7,none⟩=some (.slice p.a1 m.vars.length p.c1)∧W'.cell? ⟨w.heap.size,8,none⟩=some (.slice p.a2 m.evs.length p.c2)∧W'.cell? ⟨w.heap.size,9,none⟩=some (.slice p.a3 m.regs.length p.c3)∧W'.cell? ⟨w.heap.size,10,none⟩=some (.slice p.a4 m.vers.length p.c4)∧W'.cell? ⟨w.heap.size,11,none⟩=some (.slice p.a5 m.trns.length p.c5))∧W'.cell? ⟨b1,o1+k,none⟩=some (.int .i64 y))) ?_ (fun hHeld=>?_)
          · (try dsimp only) <;> (first | exact HS1.out _ (by assumption) | exact HS1.out _ hB0.drew)
          refine tk 0 rfl ?_
          try simp only [Act.put,lyA,lyZ,lyS]
          refine tk 1 rfl ?_
          try simp only [Act.put,lyA,lyZ,lyS]
          refine tk 2 rfl ?_
          try simp only [Act.put,lyA,lyZ,lyS]
          refine tk 3 rfl ?_
          try simp only [Act.put,lyA,lyZ,lyS]
          refine tk 4 rfl ?_
          try simp only [Act.put,lyA,lyZ,lyS]
          refine tk 5 rfl ?_
          try simp only [Act.put,lyA,lyZ,lyS]
          refine tk 6 rfl ?_
          try simp only [Act.put,lyA,lyZ,lyS]
          refine tk 7 rfl ?_
          try simp only [Act.put,lyA,lyZ,lyS]
          refine tk 8 rfl ?_
          try simp only [Act.put,lyA,lyZ,lyS]
          refine tk 9 rfl ?_
          try simp only [Act.put,lyA,lyZ,lyS]
          refine tk 10 rfl ?_
          try simp only [Act.put,lyA,lyZ,lyS]
          refine rdy [11] ?_
          refine rdC rfl (fun K hK=>?_) ?_
          (go_simp;(with_reducible refine (HC.out _ hB0.drew).mono ?_);rintro e w3 ⟨rfl,hb3⟩;have hB3:=hB0.drew.trans hb3;go_wp2_with fail)
          refine hK.out _ _ ?_ (fun hH1=>?_)
          · (try dsimp only) <;> (first | exact HS1.out _ (by assumption) | exact HS1.out _ hB0.drew)
          clear hK K hHeld
          try simp only [Act.put,lyA,lyZ,lyS]
          refine tk 12 rfl ?_
          try simp only [Act.put,lyA,lyZ,lyS]
          refine tk 13 rfl ?_
          try simp only [Act.put,lyA,lyZ,lyS]
          refine tk 14 rfl ?_
          try simp only [Act.put,lyA,lyZ,lyS]
          refine tk 15 rfl ?_
          try simp only [Act.put,lyA,lyZ,lyS]
          refine tk 16 rfl ?_
          try simp only [Act.put,lyA,lyZ,lyS]
          refine tk 17 rfl ?_
          try simp only [Act.put,lyA,lyZ,lyS]
          refine tk 18 rfl ?_
          try simp only [Act.put,lyA,lyZ,lyS]
          refine tk 19 rfl ?_
          try simp only [Act.put,lyA,lyZ,lyS]
          refine tk 21 rfl ?_
          try simp only [Act.put,lyA,lyZ,lyS]
          refine rdy [20] ?_
          refine rdC rfl (fun K hK=>?_) ?_
          (go_simp;(with_reducible refine (HG.out _ hB3).mono ?_);rintro e w4 ⟨rfl,hb4⟩;have hB4:=below_ch hB3 hb4;go_wp2_with fail)
          refine hK.out _ _ ?_ (fun hH2=>?_)
          · (try dsimp only) <;> (first | exact HS1.out _ (by assumption) | exact HS1.out _ hB0.drew)
          clear hK K hH1
          try simp only [Act.put,lyA,lyZ,lyS]
          refine tk 22 rfl ?_
          try simp only [Act.put,lyA,lyZ,lyS]
          refine tk 23 rfl ?_
          try simp only [Act.put,lyA,lyZ,lyS]
          refine tk 24 rfl ?_
          try simp only [Act.put,lyA,lyZ,lyS]
          refine wpAnyH_done (by kernel_rfl) ?_ _
          rotate_left
          exact AllReadyH.nil
          exact AllReadyH.nil
          all_goals
            go_wp2_with fail
            go_roundw
            case rel=>exact ⟨k+1,by omega,by go_num,HBo.out.below hB4,hT.out⟩
            case measure=>simp [intOf] <;> omega
         | false =>
          have hq':(hm != (k:Int))=true:=by simp only [bne,hq];rfl
          have hF:=Lib.hid ((HS.out false (by rw [hM2,hq])).2 rfl)
          clear HS hM2 hq
          go_wp2_with fail
          refine wp_region_any (by kernel_rfl) ?_
          change wpAny _ _ _ _ _ _ _ (World.drew _)
          refine wpAny_of_heldS (S:=(fun W'=>(W'.cell? ⟨w.heap.size,0,none⟩=some (.string m.nm)∧W'.cell? ⟨w.heap.size,1,none⟩=some (.slice p.a1 m.vars.length p.c1)∧W'.cell? ⟨w.heap.size,2,none⟩=some (.slice p.a2 m.evs.length p.c2)∧W'.cell? ⟨w.heap.size,3,none⟩=some (.slice p.a3 m.regs.length p.c3)∧W'.cell? ⟨w.heap.size,4,none⟩=some (.slice p.a4 m.vers.length p.c4)∧W'.cell? ⟨w.heap.size,5,none⟩=some (.slice p.a5 m.trns.length p.c5))∧(W'.cell? ⟨w.heap.size,6,none⟩=some (.string m.nm)∧W'.cell? ⟨w.heap.size,7,none⟩=some (.slice p.a1 m.vars.length p.c1)∧W'.cell? ⟨w.heap.size,8,none⟩=some (.slice p.a2 m.evs.length p.c2)∧W'.cell? ⟨w.heap.size,9,none⟩=some (.slice p.a3 m.regs.length p.c3)∧W'.cell? ⟨w.heap.size,10,none⟩=some (.slice p.a4 m.vers.length p.c4)∧W'.cell? ⟨w.heap.size,11,none⟩=some (.slice p.a5 m.trns.length p.c5))∧W'.cell? ⟨b1,o1+k,none⟩=some (.int .i64 y))) ?_ (fun hHeld=>?_)
          · (try dsimp only) <;> (first | exact HS1.out _ (by assumption) | exact HS1.out _ hB0.drew)
          refine tk 0 rfl ?_
          try simp only [Act.put,lyA,lyZ,lyS]
          refine tk 1 rfl ?_
          try simp only [Act.put,lyA,lyZ,lyS]
          refine tk 2 rfl ?_
          try simp only [Act.put,lyA,lyZ,lyS]
          refine tk 3 rfl ?_
          try simp only [Act.put,lyA,lyZ,lyS]
          refine tk 4 rfl ?_
          try simp only [Act.put,lyA,lyZ,lyS]
          refine tk 5 rfl ?_
          try simp only [Act.put,lyA,lyZ,lyS]
          refine tk 6 rfl ?_
          try simp only [Act.put,lyA,lyZ,lyS]
          refine tk 7 rfl ?_
          try simp only [Act.put,lyA,lyZ,lyS]
          refine tk 8 rfl ?_
          try simp only [Act.put,lyA,lyZ,lyS]
          refine tk 9 rfl ?_
          try simp only [Act.put,lyA,lyZ,lyS]
          refine tk 10 rfl ?_
          try simp only [Act.put,lyA,lyZ,lyS]
          refine rdy [11] ?_
          refine rdC rfl (fun K hK=>?_) ?_
          (go_simp;(with_reducible refine (HC.out _ hB0.drew).mono ?_);rintro e w3 ⟨rfl,hb3⟩;have hB3:=hB0.drew.trans hb3;go_wp2_with fail)
          refine hK.out _ _ ?_ (fun hH1=>?_)
          · (try dsimp only) <;> (first | exact HS1.out _ (by assumption) | exact HS1.out _ hB0.drew)
          clear hK K hHeld
          try simp only [Act.put,lyA,lyZ,lyS]
          refine tk 12 rfl ?_
          try simp only [Act.put,lyA,lyZ,lyS]
          refine tk 13 rfl ?_
          try simp only [Act.put,lyA,lyZ,lyS]
          refine tk 14 rfl ?_
          try simp only [Act.put,lyA,lyZ,lyS]
          refine tk 15 rfl ?_
          try simp only [Act.put,lyA,lyZ,lyS]
          refine tk 16 rfl ?_
          try simp only [Act.put,lyA,lyZ,lyS]
          refine tk 17 rfl ?_
          try simp only [Act.put,lyA,lyZ,lyS]
          refine tk 18 rfl ?_
          try simp only [Act.put,lyA,lyZ,lyS]
          refine tk 19 rfl ?_
          try simp only [Act.put,lyA,lyZ,lyS]
          refine tk 21 rfl ?_
          try simp only [Act.put,lyA,lyZ,lyS]
          refine rdy [20] ?_
          refine rdC rfl (fun K hK=>?_) ?_
          (go_simp;(with_reducible refine (HG.out _ hB3).mono ?_);rintro e w4 ⟨rfl,hb4⟩;have hB4:=below_ch hB3 hb4;go_wp2_with fail)
          refine hK.out _ _ ?_ (fun hH2=>?_)
          · (try dsimp only) <;> (first | exact HS1.out _ (by assumption) | exact HS1.out _ hB0.drew)
          clear hK K hH1
          try simp only [Act.put,lyA,lyZ,lyS]
          refine tk 22 rfl ?_
          try simp only [Act.put,lyA,lyZ,lyS]
          refine tk 23 rfl ?_
          try simp only [Act.put,lyA,lyZ,lyS]
          refine tk 24 rfl ?_
          try simp only [Act.put,lyA,lyZ,lyS]
          refine wpAnyH_done (by kernel_rfl) ?_ _
          rotate_left
          exact AllReadyH.nil
          exact AllReadyH.nil
          all_goals
            go_wp2_with fail
            go_ret
            exact ⟨by rw [hF.out];rfl,(HBo.out.below hB4).mb.bel⟩
    · have hE:=Lib.hid (HFit.out fun j hj=>HNo.out j (by have:=HN.out;omega))
      go_wp2_with fail
      go_ret
      exact ⟨by rw [hE.out];rfl,HBo.out.mb.bel⟩
 · have hd:((l.length:Int) != (m.regs.length:Int))=true:=by simp only [bne_iff_ne,ne_eq];omega
   have HF:=Lib.hid (fit1_len hn)
   clear hn
   go_enter Tryz.func82,Tryz.ntmps82
   obtain ⟨x0,x1,x2,x3,x4,x5,_⟩:=HB.out.mb.box
   go_wp2_with fail
   go_ret
   exact ⟨by rw [HF.out];rfl,HB.out.mb.bel⟩
set_option maxRecDepth 100000 in
set_option maxHeartbeats 4000000 in
theorem sfits_any {Q:Nat→BP} (m:MdlD) (p:Ph) (la ll:List Int) (a1 a2:Option Addr) (c1 c2:Nat) (w:World) (h:Mod Q w m p) (h0:riM m=(0,0,0)) (h1:RowIn w (.slice a1 la.length c1) la) (h2:RowIn w (.slice a2 ll.length c2) ll) (b1:la.length≤1000000) (b2:ll.length≤1000000) (hvl:m.vers.length≤100000) (hrl:m.regs.length≤100000) :
   Calls Tryz.prog 32 #[stV m p,.agg #[.slice a1 la.length c1,.slice a2 ll.length c2]] w fun e w'=>e=.returned (.bool (fit2 m la ll))∧Below w.heap.size w w':=by
 have HB:Hid (Sb m p w.heap.size w ((w.alloc (.cells #[.string m.nm,.slice p.a1 m.vars.length p.c1,.slice p.a2 m.evs.length p.c2,.slice p.a3 m.regs.length p.c3,.slice p.a4 m.vers.length p.c4,.slice p.a5 m.trns.length p.c5,.string m.nm,.slice p.a1 m.vars.length p.c1,.slice p.a2 m.evs.length p.c2,.slice p.a3 m.regs.length p.c3,.slice p.a4 m.vers.length p.c4,.slice p.a5 m.trns.length p.c5] 48)).alloc (.cells #[.slice a1 la.length c1,.slice a2 ll.length c2] 62))):=Lib.hid ((Sb.made h).below (below_al1 _ _))
 have R1:=Lib.hid (fun wx (g:Sb m p w.heap.size w wx)=>srow_any m p la (.slice a1 la.length c1) wx g.mb.mod h0 (h1.below g.mb.bel) b1 hvl hrl)
 have R2:=Lib.hid (fun wx (g:Sb m p w.heap.size w wx)=>srow_any m p ll (.slice a2 ll.length c2) wx g.mb.mod h0 (h2.below g.mb.bel) b2 hvl hrl)
 have HE:Hid (fit2 m la ll=(fit1 m la && fit1 m ll)):=Lib.hid rfl
 unfold stV at R1 R2 ⊢
 generalize fit1 m la=f1 at *
 generalize fit1 m ll=f2 at *
 rw [HE.out]
 clear h h0 h1 h2 HE
 have D:Hid (∀ wx,Below ((w.alloc (.cells #[.string m.nm,.slice p.a1 m.vars.length p.c1,.slice p.a2 m.evs.length p.c2,.slice p.a3 m.regs.length p.c3,.slice p.a4 m.vers.length p.c4,.slice p.a5 m.trns.length p.c5,.string m.nm,.slice p.a1 m.vars.length p.c1,.slice p.a2 m.evs.length p.c2,.slice p.a3 m.regs.length p.c3,.slice p.a4 m.vers.length p.c4,.slice p.a5 m.trns.length p.c5] 48)).alloc (.cells #[.slice a1 la.length c1,.slice a2 ll.length c2] 62)).heap.size ((w.alloc (.cells #[.string m.nm,.slice p.a1 m.vars.length p.c1,.slice p.a2 m.evs.length p.c2,.slice p.a3 m.regs.length p.c3,.slice p.a4 m.vers.length p.c4,.slice p.a5 m.trns.length p.c5,.string m.nm,.slice p.a1 m.vars.length p.c1,.slice p.a2 m.evs.length p.c2,.slice p.a3 m.regs.length p.c3,.slice p.a4 m.vers.length p.c4,.slice p.a5 m.trns.length p.c5] 48)).alloc (.cells #[.slice a1 la.length c1,.slice a2 ll.length c2] 62)) wx→wx.cell? ⟨w.heap.size+1,1,none⟩=some (.slice a2 ll.length c2)):=Lib.hid fun wx g=>(g.cell (p:=⟨w.heap.size+1,1,none⟩) (by simp)).trans (by simp)
 go_enter Tryz.func32,Tryz.ntmps32
 obtain ⟨x0,x1,x2,x3,x4,x5,_⟩:=HB.out.mb.box
 obtain ⟨y0,y1,y2,y3,y4,y5⟩:=HB.out.y
 cases f1 with
 | false =>
  go_wp2_with fail
  (with_reducible refine (R1.out _ HB.out).mono ?_)
  rintro e w3 ⟨rfl,g3⟩
  have HB3:=Lib.hid (HB.out.below g3)
  go_wp2_with fail
  go_ret
  exact ⟨rfl,HB3.out.mb.bel⟩
 | true =>
  go_wp2_with fail
  (with_reducible refine (R1.out _ HB.out).mono ?_)
  rintro e w3 ⟨rfl,g3⟩
  have HB3:=Lib.hid (HB.out.below g3)
  have d3:=D.out w3 g3
  clear x0 x1 x2 x3 x4 x5 y0 y1 y2 y3 y4 y5 HB g3
  obtain ⟨x0,x1,x2,x3,x4,x5,_⟩:=HB3.out.mb.box
  obtain ⟨y0,y1,y2,y3,y4,y5⟩:=HB3.out.y
  go_wp2_with fail
  (with_reducible refine (R2.out _ HB3.out).mono ?_)
  rintro e w4 ⟨rfl,g4⟩
  have HB4:=Lib.hid (HB3.out.below g4)
  go_wp2_with fail
  go_ret
  exact ⟨by first | rfl | simp,HB4.out.mb.bel⟩
structure Sc (m:MdlD) (p:Ph) (la ll:List Int) (a1 a2:Option Addr) (c1 c2:Nat) (w wx:World):Prop where
 sb:Sb m p w.heap.size w wx
 d0:wx.cell? ⟨w.heap.size+1,0,none⟩=some (.slice a1 la.length c1)
 d1:wx.cell? ⟨w.heap.size+1,1,none⟩=some (.slice a2 ll.length c2)
 sz:w.heap.size+1<wx.heap.size
 r1:RowIn wx (.slice a1 la.length c1) la
theorem Sc.below {m:MdlD} {p:Ph} {la ll:List Int} {a1 a2:Option Addr} {c1 c2:Nat} {w wx wy:World} (h:Sc m p la ll a1 a2 c1 c2 w wx) (g:Below wx.heap.size wx wy):Sc m p la ll a1 a2 c1 c2 w wy :=
 ⟨h.sb.below g,(g.cell (p:=⟨w.heap.size+1,0,none⟩) h.sz).trans h.d0,(g.cell (p:=⟨w.heap.size+1,1,none⟩) h.sz).trans h.d1,Nat.lt_of_lt_of_le h.sz g.size,h.r1.below g⟩
theorem Sc.made {Q:Nat→BP} {m:MdlD} {p:Ph} {la ll:List Int} {a1 a2:Option Addr} {c1 c2:Nat} {w:World} (h:Mod Q w m p) (h1:RowIn w (.slice a1 la.length c1) la) :
   Sc m p la ll a1 a2 c1 c2 w ((w.alloc (.cells #[.string m.nm,.slice p.a1 m.vars.length p.c1,.slice p.a2 m.evs.length p.c2,.slice p.a3 m.regs.length p.c3,.slice p.a4 m.vers.length p.c4,.slice p.a5 m.trns.length p.c5,.string m.nm,.slice p.a1 m.vars.length p.c1,.slice p.a2 m.evs.length p.c2,.slice p.a3 m.regs.length p.c3,.slice p.a4 m.vers.length p.c4,.slice p.a5 m.trns.length p.c5] 48)).alloc (.cells #[.slice a1 la.length c1,.slice a2 ll.length c2] 62)) :=
 ⟨(Sb.made h).below (below_al1 _ _),by simp,by simp,by simp,h1.below (below_al2 w _ _)⟩
set_option maxRecDepth 100000 in
set_option maxHeartbeats 4000000 in
theorem sis_any {Q:Nat→BP} (m:MdlD) (p:Ph) (la ll:List Int) (a1 a2:Option Addr) (c1 c2:Nat) (v:Int) (w:World) (h:Mod Q w m p) (h0:riM m=(0,0,0)) (h1:RowIn w (.slice a1 la.length c1) la) (hl:la.length=m.regs.length) (hvl:m.vers.length≤100000) :
   Calls Tryz.prog 22 #[stV m p,.agg #[.slice a1 la.length c1,.slice a2 ll.length c2],.int .i64 v] w fun e w'=>e=.returned (.bool (isA m la v))∧Below w.heap.size w w':=by
 have HB:=Lib.hid (Sc.made (ll:=ll) (a2:=a2) (c2:=c2) h h1)
 have HC0:=Lib.hid (fun wx (g:Sc m p la ll a1 a2 c1 c2 w wx)=>svertex_any m p v wx g.sb.mb.mod hvl)
 have HG0:=Lib.hid (fun wx (g:Sc m p la ll a1 a2 c1 c2 w wx)=>rhome16_any m p v wx g.sb.mb.mod h0 (by omega))
 have HI:Hid (isA m la v=(stands m v && atL la (rgA m v) == v)):=Lib.hid rfl
 have HSt:=Lib.hid (fun (hs:stands m v=true)=>stands_in h0 hs)
 have HLl:=Lib.hid hl
 obtain ⟨st,hst⟩:∃ b,stands m v=b:=⟨_,rfl⟩
 unfold ixV at HG0
 unfold stV mdV at *
 rw [hst] at HI
 have HC1:Hid (∀ wx,Sc m p la ll a1 a2 c1 c2 w wx→Calls Tryz.prog 73 #[.agg #[.string m.nm,.slice p.a1 m.vars.length p.c1,.slice p.a2 m.evs.length p.c2,.slice p.a3 m.regs.length p.c3,.slice p.a4 m.vers.length p.c4,.slice p.a5 m.trns.length p.c5,.string m.nm,.slice p.a1 m.vars.length p.c1,.slice p.a2 m.evs.length p.c2,.slice p.a3 m.regs.length p.c3,.slice p.a4 m.vers.length p.c4,.slice p.a5 m.trns.length p.c5],.int .i64 v] wx fun e w'=>e=.returned (.bool st)∧Below wx.heap.size wx w'):=Lib.hid (by rw [← hst];exact HC0.out)
 obtain ⟨a1',c1',e,hc,q⟩:=h1.len
 simp only [Value.slice.injEq] at e
 obtain ⟨e1,_,e2⟩:=e
 rw [← e2] at hc
 rw [← e1] at q
 have hq:=q
 clear h h0 HC0 e1 e2 q hl
 cases st with
 | false =>
  rw [Bool.false_and] at HI
  rw [HI.out]
  clear HI HG0 HSt hq hst h1
  go_enter Tryz.func22,Tryz.ntmps22
  go_wp2_with fail
  generalize ((w.alloc (.cells #[.string m.nm,.slice p.a1 m.vars.length p.c1,.slice p.a2 m.evs.length p.c2,.slice p.a3 m.regs.length p.c3,.slice p.a4 m.vers.length p.c4,.slice p.a5 m.trns.length p.c5,.string m.nm,.slice p.a1 m.vars.length p.c1,.slice p.a2 m.evs.length p.c2,.slice p.a3 m.regs.length p.c3,.slice p.a4 m.vers.length p.c4,.slice p.a5 m.trns.length p.c5] 48)).alloc (.cells #[.slice a1 la.length c1,.slice a2 ll.length c2] 62))=W1 at *
  have HC:=Lib.hid (fun wx (g:Below W1.heap.size W1 wx)=>HC1.out wx (HB.out.below g))
  have HS1:Hid (∀ W',Below W1.heap.size W1 W'→(W'.cell? ⟨w.heap.size,0,none⟩=some (.string m.nm)∧W'.cell? ⟨w.heap.size,1,none⟩=some (.slice p.a1 m.vars.length p.c1)∧W'.cell? ⟨w.heap.size,2,none⟩=some (.slice p.a2 m.evs.length p.c2)∧W'.cell? ⟨w.heap.size,3,none⟩=some (.slice p.a3 m.regs.length p.c3)∧W'.cell? ⟨w.heap.size,4,none⟩=some (.slice p.a4 m.vers.length p.c4)∧W'.cell? ⟨w.heap.size,5,none⟩=some (.slice p.a5 m.trns.length p.c5))∧(W'.cell? ⟨w.heap.size,6,none⟩=some (.string m.nm)∧W'.cell? ⟨w.heap.size,7,none⟩=some (.slice p.a1 m.vars.length p.c1)∧W'.cell? ⟨w.heap.size,8,none⟩=some (.slice p.a2 m.evs.length p.c2)∧W'.cell? ⟨w.heap.size,9,none⟩=some (.slice p.a3 m.regs.length p.c3)∧W'.cell? ⟨w.heap.size,10,none⟩=some (.slice p.a4 m.vers.length p.c4)∧W'.cell? ⟨w.heap.size,11,none⟩=some (.slice p.a5 m.trns.length p.c5))∧W'.cell? ⟨w.heap.size+1,0,none⟩=some (.slice a1 la.length c1)):=Lib.hid fun W' g=>by
    have hh:=HB.out.below g
    obtain ⟨x0,x1,x2,x3,x4,x5,_⟩:=hh.sb.mb.box
    exact ⟨⟨x0,x1,x2,x3,x4,x5⟩,hh.sb.y,hh.d0⟩
  have hB0:Below W1.heap.size W1 W1:=Below.refl _ _
  clear HC1
  refine wp_region_any (by kernel_rfl) ?_
  change wpAny _ _ _ _ _ _ _ (World.drew _)
  refine wpAny_of_heldS (S:=(fun W'=>(W'.cell? ⟨w.heap.size,0,none⟩=some (.string m.nm)∧W'.cell? ⟨w.heap.size,1,none⟩=some (.slice p.a1 m.vars.length p.c1)∧W'.cell? ⟨w.heap.size,2,none⟩=some (.slice p.a2 m.evs.length p.c2)∧W'.cell? ⟨w.heap.size,3,none⟩=some (.slice p.a3 m.regs.length p.c3)∧W'.cell? ⟨w.heap.size,4,none⟩=some (.slice p.a4 m.vers.length p.c4)∧W'.cell? ⟨w.heap.size,5,none⟩=some (.slice p.a5 m.trns.length p.c5))∧(W'.cell? ⟨w.heap.size,6,none⟩=some (.string m.nm)∧W'.cell? ⟨w.heap.size,7,none⟩=some (.slice p.a1 m.vars.length p.c1)∧W'.cell? ⟨w.heap.size,8,none⟩=some (.slice p.a2 m.evs.length p.c2)∧W'.cell? ⟨w.heap.size,9,none⟩=some (.slice p.a3 m.regs.length p.c3)∧W'.cell? ⟨w.heap.size,10,none⟩=some (.slice p.a4 m.vers.length p.c4)∧W'.cell? ⟨w.heap.size,11,none⟩=some (.slice p.a5 m.trns.length p.c5))∧W'.cell? ⟨w.heap.size+1,0,none⟩=some (.slice a1 la.length c1))) ?_ (fun hHeld=>?_)
  · (try dsimp only) <;> (first | exact HS1.out _ (by assumption) | exact HS1.out _ hB0.drew)
  refine tk 0 rfl ?_
  try simp only [Act.put,lyA,lyZ,lyS]
  refine tk 1 rfl ?_
  try simp only [Act.put,lyA,lyZ,lyS]
  refine rdy [2] ?_
  refine rdC rfl (fun K hK=>?_) ?_
  (go_simp;(with_reducible refine (HC.out _ (by first | assumption | exact hB0.drew)).mono ?_);rintro e w3 ⟨rfl,hb3⟩;have hB3:=below_ch (by first | assumption | exact hB0.drew) hb3;go_wp2_with fail)
  refine hK.out _ _ ?_ (fun hH1=>?_)
  · (try dsimp only) <;> (first | exact HS1.out _ (by assumption) | exact HS1.out _ hB0.drew)
  clear hK K hHeld
  try simp only [Act.put,lyA,lyZ,lyS]
  refine tk 3 rfl ?_
  try simp only [Act.put,lyA,lyZ,lyS]
  refine tkP 4 rfl ?_
  try simp only [Act.put,lyA,lyZ,lyS]
  refine tkP 5 rfl ?_
  try simp only [Act.put,lyA,lyZ,lyS]
  refine tkP 6 rfl ?_
  try simp only [Act.put,lyA,lyZ,lyS]
  refine tkP 7 rfl ?_
  try simp only [Act.put,lyA,lyZ,lyS]
  refine tkP 8 rfl ?_
  try simp only [Act.put,lyA,lyZ,lyS]
  refine tkP 9 rfl ?_
  try simp only [Act.put,lyA,lyZ,lyS]
  refine tkP 10 rfl ?_
  try simp only [Act.put,lyA,lyZ,lyS]
  refine tkP 11 rfl ?_
  try simp only [Act.put,lyA,lyZ,lyS]
  refine tkP 12 rfl ?_
  try simp only [Act.put,lyA,lyZ,lyS]
  refine tkP 13 rfl ?_
  try simp only [Act.put,lyA,lyZ,lyS]
  refine tk 14 rfl ?_
  try simp only [Act.put,lyA,lyZ,lyS]
  refine tk 15 rfl ?_
  try simp only [Act.put,lyA,lyZ,lyS]
  refine wpAnyH_done (by kernel_rfl) ?_ _
  rotate_left
  exact AllReadyH.nil
  all_goals
    go_wp2_with fail
    go_ret
    exact ⟨rfl,(HB.out.below hB3).sb.mb.bel⟩
 | true =>
  obtain ⟨k,hk,rfl,r,hr,e1,e2,_⟩:=HSt.out hst
  have hrl:r<la.length:=by rw [HLl.out];exact hr
  have HG1:Hid (∀ wx,Sc m p la ll a1 a2 c1 c2 w wx→Calls Tryz.prog 20 #[.agg #[.string m.nm,.slice p.a1 m.vars.length p.c1,.slice p.a2 m.evs.length p.c2,.slice p.a3 m.regs.length p.c3,.slice p.a4 m.vers.length p.c4,.slice p.a5 m.trns.length p.c5],.int .i64 (k:Int)] wx fun e w'=>e=.returned (.int .i64 (r:Int))∧Below wx.heap.size wx w'):=Lib.hid (by rw [← e2];exact HG0.out)
  obtain ⟨b1,o1,ea,hb1,hc1⟩:=hq r hrl
  rw [e1,Bool.true_and,atL_at hrl] at HI
  obtain ⟨y,hy⟩:∃ y,la[r]'hrl=y:=⟨_,rfl⟩
  rw [hy] at hc1 HI
  rw [HI.out]
  have hb1':b1<((w.alloc (.cells #[.string m.nm,.slice p.a1 m.vars.length p.c1,.slice p.a2 m.evs.length p.c2,.slice p.a3 m.regs.length p.c3,.slice p.a4 m.vers.length p.c4,.slice p.a5 m.trns.length p.c5,.string m.nm,.slice p.a1 m.vars.length p.c1,.slice p.a2 m.evs.length p.c2,.slice p.a3 m.regs.length p.c3,.slice p.a4 m.vers.length p.c4,.slice p.a5 m.trns.length p.c5] 48)).alloc (.cells #[.slice a1 la.length c1,.slice a2 ll.length c2] 62)).heap.size:=by simp;omega
  have hc1':((w.alloc (.cells #[.string m.nm,.slice p.a1 m.vars.length p.c1,.slice p.a2 m.evs.length p.c2,.slice p.a3 m.regs.length p.c3,.slice p.a4 m.vers.length p.c4,.slice p.a5 m.trns.length p.c5,.string m.nm,.slice p.a1 m.vars.length p.c1,.slice p.a2 m.evs.length p.c2,.slice p.a3 m.regs.length p.c3,.slice p.a4 m.vers.length p.c4,.slice p.a5 m.trns.length p.c5] 48)).alloc (.cells #[.slice a1 la.length c1,.slice a2 ll.length c2] 62)).cell? ⟨b1,o1+r,none⟩=some (.int .i64 y):=((below_al2 w _ _).cell (p:=⟨b1,o1+r,none⟩) hb1).trans hc1
  have hrI:(r:Int)<(la.length:Int):=by omega
  have hr0:(0:Int)≤(r:Int):=by omega
  clear HI HG0 HSt hst e1 e2 hy hc1 hq hb1
  subst ea
  go_enter Tryz.func22,Tryz.ntmps22
  go_wp2_with fail
  generalize ((w.alloc (.cells #[.string m.nm,.slice p.a1 m.vars.length p.c1,.slice p.a2 m.evs.length p.c2,.slice p.a3 m.regs.length p.c3,.slice p.a4 m.vers.length p.c4,.slice p.a5 m.trns.length p.c5,.string m.nm,.slice p.a1 m.vars.length p.c1,.slice p.a2 m.evs.length p.c2,.slice p.a3 m.regs.length p.c3,.slice p.a4 m.vers.length p.c4,.slice p.a5 m.trns.length p.c5] 48)).alloc (.cells #[.slice (some ⟨b1,o1,none⟩) la.length c1,.slice a2 ll.length c2] 62))=W1 at *
  have HC:=Lib.hid (fun wx (g:Below W1.heap.size W1 wx)=>HC1.out wx (HB.out.below g))
  have HG:=Lib.hid (fun wx (g:Below W1.heap.size W1 wx)=>HG1.out wx (HB.out.below g))
  have HS1:Hid (∀ W',Below W1.heap.size W1 W'→(W'.cell? ⟨w.heap.size,0,none⟩=some (.string m.nm)∧W'.cell? ⟨w.heap.size,1,none⟩=some (.slice p.a1 m.vars.length p.c1)∧W'.cell? ⟨w.heap.size,2,none⟩=some (.slice p.a2 m.evs.length p.c2)∧W'.cell? ⟨w.heap.size,3,none⟩=some (.slice p.a3 m.regs.length p.c3)∧W'.cell? ⟨w.heap.size,4,none⟩=some (.slice p.a4 m.vers.length p.c4)∧W'.cell? ⟨w.heap.size,5,none⟩=some (.slice p.a5 m.trns.length p.c5))∧(W'.cell? ⟨w.heap.size,6,none⟩=some (.string m.nm)∧W'.cell? ⟨w.heap.size,7,none⟩=some (.slice p.a1 m.vars.length p.c1)∧W'.cell? ⟨w.heap.size,8,none⟩=some (.slice p.a2 m.evs.length p.c2)∧W'.cell? ⟨w.heap.size,9,none⟩=some (.slice p.a3 m.regs.length p.c3)∧W'.cell? ⟨w.heap.size,10,none⟩=some (.slice p.a4 m.vers.length p.c4)∧W'.cell? ⟨w.heap.size,11,none⟩=some (.slice p.a5 m.trns.length p.c5))∧W'.cell? ⟨w.heap.size+1,0,none⟩=some (.slice (some ⟨b1,o1,none⟩) la.length c1)∧W'.cell? ⟨b1,o1+r,none⟩=some (.int .i64 y)):=Lib.hid fun W' g=>by
    have hh:=HB.out.below g
    obtain ⟨x0,x1,x2,x3,x4,x5,_⟩:=hh.sb.mb.box
    exact ⟨⟨x0,x1,x2,x3,x4,x5⟩,hh.sb.y,hh.d0,(g.cell (p:=⟨b1,o1+r,none⟩) hb1').trans hc1'⟩
  have hB0:Below W1.heap.size W1 W1:=Below.refl _ _
  clear HC1 HG1 h1
  refine wp_region_any (by kernel_rfl) ?_
  change wpAny _ _ _ _ _ _ _ (World.drew _)
  refine wpAny_of_heldS (S:=(fun W'=>(W'.cell? ⟨w.heap.size,0,none⟩=some (.string m.nm)∧W'.cell? ⟨w.heap.size,1,none⟩=some (.slice p.a1 m.vars.length p.c1)∧W'.cell? ⟨w.heap.size,2,none⟩=some (.slice p.a2 m.evs.length p.c2)∧W'.cell? ⟨w.heap.size,3,none⟩=some (.slice p.a3 m.regs.length p.c3)∧W'.cell? ⟨w.heap.size,4,none⟩=some (.slice p.a4 m.vers.length p.c4)∧W'.cell? ⟨w.heap.size,5,none⟩=some (.slice p.a5 m.trns.length p.c5))∧(W'.cell? ⟨w.heap.size,6,none⟩=some (.string m.nm)∧W'.cell? ⟨w.heap.size,7,none⟩=some (.slice p.a1 m.vars.length p.c1)∧W'.cell? ⟨w.heap.size,8,none⟩=some (.slice p.a2 m.evs.length p.c2)∧W'.cell? ⟨w.heap.size,9,none⟩=some (.slice p.a3 m.regs.length p.c3)∧W'.cell? ⟨w.heap.size,10,none⟩=some (.slice p.a4 m.vers.length p.c4)∧W'.cell? ⟨w.heap.size,11,none⟩=some (.slice p.a5 m.trns.length p.c5))∧W'.cell? ⟨w.heap.size+1,0,none⟩=some (.slice (some ⟨b1,o1,none⟩) la.length c1)∧W'.cell? ⟨b1,o1+r,none⟩=some (.int .i64 y))) ?_ (fun hHeld=>?_)
  · (try dsimp only) <;> (first | exact HS1.out _ (by assumption) | exact HS1.out _ hB0.drew)
  refine tk 0 rfl ?_
  try simp only [Act.put,lyA,lyZ,lyS]
  refine tk 1 rfl ?_
  try simp only [Act.put,lyA,lyZ,lyS]
  refine rdy [2] ?_
  refine rdC rfl (fun K hK=>?_) ?_
  (go_simp;(with_reducible refine (HC.out _ (by first | assumption | exact hB0.drew)).mono ?_);rintro e w3 ⟨rfl,hb3⟩;have hB3:=below_ch (by first | assumption | exact hB0.drew) hb3;go_wp2_with fail)
  refine hK.out _ _ ?_ (fun hH1=>?_)
  · (try dsimp only) <;> (first | exact HS1.out _ (by assumption) | exact HS1.out _ hB0.drew)
  clear hK K hHeld
  try simp only [Act.put,lyA,lyZ,lyS]
  refine tk 3 rfl ?_
  try simp only [Act.put,lyA,lyZ,lyS]
  refine tk 4 rfl ?_
  try simp only [Act.put,lyA,lyZ,lyS]
  refine tk 5 rfl ?_
  try simp only [Act.put,lyA,lyZ,lyS]
  refine tk 6 rfl ?_
  try simp only [Act.put,lyA,lyZ,lyS]
  refine tk 7 rfl ?_
  try simp only [Act.put,lyA,lyZ,lyS]
  refine tk 8 rfl ?_
  try simp only [Act.put,lyA,lyZ,lyS]
  refine tk 12 rfl ?_
  try simp only [Act.put,lyA,lyZ,lyS]
  refine rdy [9] ?_
  refine rdC rfl (fun K hK=>?_) ?_
  (go_simp;(with_reducible refine (HG.out _ (by assumption)).mono ?_);rintro e w4 ⟨rfl,hb4⟩;have hB4:=below_ch hB3 hb4;go_wp2_with fail)
  refine hK.out _ _ ?_ (fun hH2=>?_)
  · (try dsimp only) <;> (first | exact HS1.out _ (by assumption) | exact HS1.out _ hB0.drew)
  clear hK K hH1
  try simp only [Act.put,lyA,lyZ,lyS]
  refine tk 10 rfl ?_
  try simp only [Act.put,lyA,lyZ,lyS]
  refine tk 11 rfl ?_
  try simp only [Act.put,lyA,lyZ,lyS]
  refine tk 13 rfl ?_
  try simp only [Act.put,lyA,lyZ,lyS]
  refine tk 14 rfl ?_
  try simp only [Act.put,lyA,lyZ,lyS]
  refine tk 15 rfl ?_
  try simp only [Act.put,lyA,lyZ,lyS]
  refine wpAnyH_done (by kernel_rfl) ?_ _
  rotate_left
  exact AllReadyH.nil
  exact AllReadyH.nil
  all_goals
    go_wp2_with fail
    go_ret
    exact ⟨rfl,(HB.out.below hB4).sb.mb.bel⟩
theorem ownsRow_capG' {N T n c:Nat} {a:Option Addr} {w:World} {xs:List Value} (h:w.ownsRow N T 1 (.slice a n c) n xs):n≤c:=by
 rcases h.2 with ⟨e,h0⟩ | ⟨g',c',_,e,_,_,hc,_⟩
 · omega
 · simp only [Value.slice.injEq] at e;omega
theorem with_facts {l:List Int} {w w4:World} {v4:Value} (hown4:w4.ownsRow w.heap.size 3 1 v4 ([] ++ l).length (nums ([] ++ l))) (hgrow4:w.grownBy w4 (Value.slice none 0 0).ownBlock) {i:Nat} (hi:i<l.length) (v:Int) :
   ∃ g c4,v4=.slice (some ⟨g,0,none⟩) l.length c4∧l.length≤c4∧w4.cell? ⟨g,i,none⟩=some (.int .i64 l[i])∧w4.frozen? ⟨g,i,none⟩=false∧Below w.heap.size w (w4.setCell ⟨g,i,none⟩ (.int .i64 v))∧(w4.setCell ⟨g,i,none⟩ (.int .i64 v)).ownsRow w.heap.size 3 1 (.slice (some ⟨g,0,none⟩) l.length c4) (l.set i v).length (nums (l.set i v)):=by
 rw [List.nil_append] at hown4
 obtain ⟨g,c4,rfl⟩:=ownsRow_pos hown4 (by omega)
 refine ⟨g,c4,rfl,ownsRow_capG' hown4,(hown4.cellAt i (by omega)).trans (by simp [nums,hi]),hown4.frozenAt i,((Below.refl w.heap.size w).grown hgrow4 (Nat.le_refl _) (fun q hq=>by cases hq)).setCell (p:=⟨g,i,none⟩) (hown4.lt g rfl).1 _,?_⟩
 have e:nums (l.set i v)=(nums l).set i (.int .i64 v):=by simp [nums,List.map_set]
 rw [List.length_set,e];exact (hown4.stored i (.int .i64 v)).1
set_option maxRecDepth 100000 in
set_option maxHeartbeats 4000000 in
theorem swith_any (l:List Int) (lv:Value) (i:Nat) (v:Int) (w:World) (h:RowIn w lv l) (hi:i<l.length) (hl:l.length≤900000) :
   Calls Tryz.prog 85 #[lv,.int .i64 (i:Int),.int .i64 v] w (RowP (l.set i v) w):=by
 obtain ⟨iI,hiI,zI0,zI1,zI2⟩:=info_parts info_Num
 have HR:=Lib.hid h
 obtain ⟨a,c,rfl,hc,_⟩:=h.len
 clear h
 go_enter Tryz.func85,Tryz.ntmps85
 go_wp2_with (at_builtin;refine wpList_append_row _ rfl _ _ 29 rfl 3 w.heap.size iI (.int .i64 0) Tryz.underlying29 hiI zI0 zI1 zI2 rfl (.slice none 0 0) [] rfl (World.ownsRow_nil _ _ _ _) _ l rfl HR.out (by simp;omega) (Nat.le_refl _) ?_;intro v4 w4 hown4 hgrow4 hnxt4;obtain ⟨g,c4,rfl,hcap,hcell,hfr,hB,hO⟩:=with_facts hown4 hgrow4 hi v;have hiI2:(i:Int)<(l.length:Int):=(by omega);have hi0:(0:Int)≤(i:Int):=(by omega);have HBB:=Lib.hid hB;have HOO:=Lib.hid hO;clear hB hO hown4 hgrow4 hnxt4)
 go_ret
 exact ⟨_,rfl,HOO.out,HBB.out⟩
end Go.Proofs
