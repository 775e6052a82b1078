/- Walks: what the laws of layer 26 call: small, works. -/
import Derived.Test.YtiimoclbmaggjaaGreatDoorLSgTV
namespace Go.Proofs
open Go.RowKit Go.Lx Go.Md Go.Shelf Go.BigFrame
set_option linter.unusedVariables false
structure Sm26 (m:MdlD) (a b:Nat):Prop where
 rg:m.regs.length≤20
 vr:m.vers.length≤40
 tr:m.trns.length≤40
 few:FewP m
 a:a≤40
 b:b≤40
set_option maxHeartbeats 1000000 in
theorem small26_any {Q:Nat→BP} (m:MdlD) (p:Ph) (a1 a2:Option Addr) (n1 c1 n2 c2:Nat) (w:World) (h:Mod Q w m p) (hm:MdlOk m) (hn1:n1≤140737488355328) (hn2:n2≤140737488355328) :
   Calls Tryz.prog 116 #[mdV m p,.agg #[.slice a1 n1 c1,.slice a2 n2 c2]] w fun e w'=>BoolSays (Sm26 m n1 n2) e∧Below w.heap.size w w':=by
 have HB:Hid (Mb m p w.heap.size w ((w.alloc (.cells #[.string m.nm,.slice p.a1 m.vars.length p.c1,.slice p.a2 m.evs.length p.c2,.slice p.a3 m.regs.length p.c3,.slice p.a4 m.vers.length p.c4,.slice p.a5 m.trns.length p.c5] 28)).alloc (.cells #[.slice a1 n1 c1,.slice a2 n2 c2] 74))):=Lib.hid ((Mb.made h).below (below_al1 _ _))
 have HF:=Lib.hid (fun wx (g:Mb m p w.heap.size w wx)=>few_any m p wx g.mod hm)
 have HD:Hid (∀ wx,Below ((w.alloc (.cells #[.string m.nm,.slice p.a1 m.vars.length p.c1,.slice p.a2 m.evs.length p.c2,.slice p.a3 m.regs.length p.c3,.slice p.a4 m.vers.length p.c4,.slice p.a5 m.trns.length p.c5] 28)).alloc (.cells #[.slice a1 n1 c1,.slice a2 n2 c2] 74)).heap.size ((w.alloc (.cells #[.string m.nm,.slice p.a1 m.vars.length p.c1,.slice p.a2 m.evs.length p.c2,.slice p.a3 m.regs.length p.c3,.slice p.a4 m.vers.length p.c4,.slice p.a5 m.trns.length p.c5] 28)).alloc (.cells #[.slice a1 n1 c1,.slice a2 n2 c2] 74)) wx→wx.cell? ⟨w.heap.size+1,0,none⟩=some (.slice a1 n1 c1)∧wx.cell? ⟨w.heap.size+1,1,none⟩=some (.slice a2 n2 c2)):=Lib.hid fun wx g=>⟨(g.cell (p:=⟨w.heap.size+1,0,none⟩) (by simp)).trans (by simp),(g.cell (p:=⟨w.heap.size+1,1,none⟩) (by simp)).trans (by simp)⟩
 unfold mdV at HF ⊢
 have b1:=hm.regs
 have b2:=hm.vers
 have b3:=hm.trns
 clear h hm
 by_cases h1:m.regs.length≤20
 · have d1:((m.regs.length:Int)≤20):=by omega
   by_cases h2:m.vers.length≤40
   · have d2:((m.vers.length:Int)≤40):=by omega
     by_cases h3:m.trns.length≤40
     · have d3:((m.trns.length:Int)≤40):=by omega
       go_enter Tryz.func116,Tryz.ntmps116
       go_wp2_with fail
       (with_reducible refine (HF.out _ HB.out).mono ?_)
       rintro e w2 ⟨⟨b,rfl,hs⟩,g2⟩
       have HB2:=Lib.hid (HB.out.below g2)
       obtain ⟨e0,e1⟩:=HD.out w2 g2
       have HSt:=Lib.hid hs
       clear g2 HF HB HD hs
       cases b with
       | false =>
        go_wp2_with fail
        go_ret
        exact ⟨⟨false,rfl,fun ht=>by cases ht⟩,HB2.out.bel⟩
       | true =>
        by_cases h4:n1≤40
        · have d4:((n1:Int)≤40):=by omega
          by_cases h5:n2≤40
          · have d5:decide ((n2:Int)≤40)=true:=by simp;omega
            go_wp2_with fail
            go_ret
            exact ⟨⟨true,rfl,fun ht=>⟨h1,h2,h3,HSt.out rfl,h4,h5⟩⟩,HB2.out.bel⟩
          · have d5:decide ((n2:Int)≤40)=false:=by simp;omega
            go_wp2_with fail
            go_ret
            exact ⟨⟨false,rfl,fun ht=>by cases ht⟩,HB2.out.bel⟩
        · have d4:¬ ((n1:Int)≤40):=by omega
          go_wp2_with fail
          go_ret
          exact ⟨⟨false,rfl,fun ht=>by cases ht⟩,HB2.out.bel⟩
     · have d3:¬ ((m.trns.length:Int)≤40):=by omega
       go_enter Tryz.func116,Tryz.ntmps116
       go_wp2_with fail
       go_ret
       exact ⟨⟨false,rfl,fun ht=>by cases ht⟩,HB.out.bel⟩
   · have d2:¬ ((m.vers.length:Int)≤40):=by omega
     go_enter Tryz.func116,Tryz.ntmps116
     go_wp2_with fail
     go_ret
     exact ⟨⟨false,rfl,fun ht=>by cases ht⟩,HB.out.bel⟩
 · have d1:¬ ((m.regs.length:Int)≤20):=by omega
   go_enter Tryz.func116,Tryz.ntmps116
   go_wp2_with fail
   go_ret
   exact ⟨⟨false,rfl,fun ht=>by cases ht⟩,HB.out.bel⟩
theorem freshB (w:World) (l:List Int) (cs:Array Value) (h:cs.toList=nums l) (n:Nat) (hn:l.length=n) (b:Nat) (hb:w.heap.size=b):RowIn (w.alloc (.cells cs 3)) (.slice (some ⟨b,0,none⟩) n n) l:=by
 subst hb;exact RowIn.fresh w l cs h n hn
def ChkD (fl:List (Nat × Nat)) (w:World) (e:Ending) (w':World):Prop:=∃ g c,e=.returned (.tuple #[.slice (some ⟨g,0,none⟩) fl.length c,.int .i64 0])∧Below w.heap.size w w'∧g<w'.heap.size∧fl.length≤c∧∀ j u,(fauV fl)[j]? = some u→w'.cell? ⟨g,j,none⟩=some u
theorem chkD (p:Ph) (la ll:List Int) (fl:List (Nat × Nat)) (n:Nat) (a1 a2:Option Addr) (c1 c2:Nat) (w1 wx:World) (g:Mb doorM p w1.heap.size w1 wx) (hT:Tab wx) (h1:RowIn wx (.slice a1 n c1) la) (h2:RowIn wx (.slice a2 n c2) ll) (hla:la.length=n) (hll:ll.length=n) (hn:n≤1000)
   (hc:chkE doorM la ll=0) (hf:fltF doorM la doorM.regs.length=fl) (hp:0<fl.length):Calls Tryz.prog 120 #[mdV doorM p,.agg #[.slice a1 n c1,.slice a2 n c2]] wx (ChkD fl wx):=by
 subst hla
 have h2':RowIn wx (.slice a2 ll.length c2) ll:=by rw [hll];exact h2
 rw [← hll]
 have:=check_any doorM p la ll a1 a2 c1 c2 wx g.mod door_ok hT h1 h2' (by omega) (by omega) (by decide) (by decide) (by decide)
 rw [hll] at this ⊢
 refine this.mono ?_
 rintro e w' ⟨v,rfl,hb,(⟨hne,_⟩ | ⟨_,ho⟩)⟩
 · exact absurd hc hne
 · rw [hf] at ho
   obtain ⟨gg,c,rfl⟩:∃ g c,v=.slice (some ⟨g,0,none⟩) fl.length c:=by
     rcases ho.2 with ⟨_,e2⟩ | ⟨g,c,_,e,_⟩
     · omega
     · exact ⟨_,_,e⟩
   refine ⟨gg,c,by rw [hc];rfl,hb,(ho.lt gg rfl).2,?_,fun j u hj=>by have:=ho.cells rfl j u hj;rw [addr_add,Nat.zero_add] at this;exact this⟩
   rcases ho.2 with ⟨e,h0⟩ | ⟨g',c',_,e,_,_,hc,_⟩
   · omega
   · simp only [Value.slice.injEq] at e;omega
theorem legD (p:Ph) (la ll:List Int) (n:Nat) (a1 a2:Option Addr) (c1 c2:Nat) (w1 wx:World) (g:Mb doorM p w1.heap.size w1 wx) (hT:Tab wx) (h1:RowIn wx (.slice a1 n c1) la) (h2:RowIn wx (.slice a2 n c2) ll) (hla:la.length=n) (hll:ll.length=n) (hn:n≤1000)
   (hc:legB doorM la ll=true):Calls Tryz.prog 123 #[mdV doorM p,.agg #[.slice a1 n c1,.slice a2 n c2]] wx fun e w'=>e=.returned (.bool true)∧Below wx.heap.size wx w':=by
 subst hla
 have h2':RowIn wx (.slice a2 ll.length c2) ll:=by rw [hll];exact h2
 have:=legal_any doorM p la ll a1 a2 c1 c2 wx g.mod door_ok hT h1 h2' (by omega) (by omega) (by decide) (by decide) (by decide)
 rw [hll,hc] at this
 exact this
theorem fillD (p:Ph) (la ll d:List Int) (n:Nat) (a1 a2:Option Addr) (c1 c2:Nat) (w1 wx:World) (g:Mb doorM p w1.heap.size w1 wx) (hT:Tab wx) (h1:RowIn wx (.slice a1 n c1) la) (h2:RowIn wx (.slice a2 n c2) ll) (hla:la.length=n) (hll:ll.length=n) (hn:n=doorM.regs.length)
   (hc:chkE doorM la ll=0) (hd:Fld doorM la d) (hN:Nrm doorM d):Calls Tryz.prog 121 #[mdV doorM p,.agg #[.slice a1 n c1,.slice a2 n c2]] wx fun e w'=>Below wx.heap.size wx w'∧∃ x1 y1 x2 y2,e=.returned (.tuple #[.agg #[.slice x1 n y1,.slice x2 n y2],.int .i64 0])∧RowIn w' (.slice x1 n y1) d∧RowIn w' (.slice x2 n y2) ll:=by
 subst hla
 have h2':RowIn wx (.slice a2 ll.length c2) ll:=by rw [hll];exact h2
 have h3:doorM.regs.length≤100:=by decide
 have:=fill_any doorM p la ll a1 a2 c1 c2 wx g.mod door_ok hT h1 h2' (by omega) (by omega) (by decide) h3 (by decide)
 rw [hll] at this
 refine this.mono ?_
 rintro e w' ⟨hb,(⟨hne,_⟩ | ⟨_,d',v1,v2,rfl,hf,hn',o1,o2,_⟩)⟩
 · exact absurd hc hne
 · obtain rfl:=fill_one (hn) hf hd hn' hN
   have r1:=RowIn.own o1
   have r2:=RowIn.own o2
   obtain ⟨x1,y1,rfl⟩:=ownsRow_slice o1
   obtain ⟨x2,y2,rfl⟩:=ownsRow_slice o2
   rw [hf.len] at r1
   rw [hll] at r2
   exact ⟨hb,x1,y1,x2,y2,by rw [hf.len,hll],r1,r2⟩
theorem door_filled:Fld doorM [-1,-1,-1] [1,3,6]∧Nrm doorM [1,3,6]:=by
 have s1:=Fld.step (m:=doorM) (c:=[-1,-1,-1]) (r:=0) .refl (by decide) (by kernel_rfl)
 have e1:([-1,-1,-1]:List Int).set 0 (leastM doorM (0:Nat))=[1,-1,-1]:=by kernel_rfl
 rw [e1] at s1
 have s2:=s1.step (r:=1) (by decide) (by kernel_rfl)
 have e2:([1,-1,-1]:List Int).set 1 (leastM doorM (1:Nat))=[1,3,-1]:=by kernel_rfl
 rw [e2] at s2
 have s3:=s2.step (r:=2) (by decide) (by kernel_rfl)
 have e3:([1,3,-1]:List Int).set 2 (leastM doorM (2:Nat))=[1,3,6]:=by kernel_rfl
 rw [e3] at s3
 refine ⟨s3,fun r hr=>?_⟩
 have:r=0∨r=1∨r=2:=by have:r<3:=hr;omega
 rcases this with rfl | rfl | rfl
 · show fillM doorM [1,3,6] 0=false;kernel_rfl
 · show fillM doorM [1,3,6] 1=false;kernel_rfl
 · show fillM doorM [1,3,6] 2=false;kernel_rfl
set_option maxRecDepth 100000 in
set_option maxHeartbeats 8000000 in
theorem works26 (w:World) (hT:Tab w):Calls Tryz.prog 55 #[] w fun e w'=>e=.returned (.bool true)∧Below w.heap.size w w':=by
 have HTb:=Lib.hid (fun wx (g:Below w.heap.size w wx)=>hT.next g)
 have C1:=Lib.hid (fun (p:Ph) (a1 a2:Option Addr) (c1 c2:Nat) (w1 wx:World) (g:Mb doorM p w1.heap.size w1 wx) (hT:Tab wx) h1 h2=>chkD p [-1,-1,-1] [-1,-1,-1] [(1,0)] 3 a1 a2 c1 c2 w1 wx g hT h1 h2 rfl rfl (by decide) (by kernel_rfl) (by kernel_rfl) (by decide))
 have C2:=Lib.hid (fun (p:Ph) (a1 a2:Option Addr) (c1 c2:Nat) (w1 wx:World) (g:Mb doorM p w1.heap.size w1 wx) (hT:Tab wx) h1 h2=>chkD p [1,-1,-1] [-1,-1,-1] [(2,1),(2,2)] 3 a1 a2 c1 c2 w1 wx g hT h1 h2 rfl rfl (by decide) (by kernel_rfl) (by kernel_rfl) (by decide))
 have C3:=Lib.hid (fun (p:Ph) (a1 a2:Option Addr) (c1 c2:Nat) (w1 wx:World) (g:Mb doorM p w1.heap.size w1 wx) (hT:Tab wx) h1 h2=>chkD p [10,3,6] [-1,-1,-1] [(3,1),(3,2)] 3 a1 a2 c1 c2 w1 wx g hT h1 h2 rfl rfl (by decide) (by kernel_rfl) (by kernel_rfl) (by decide))
 have C4:=Lib.hid (fun (p:Ph) (a1 a2:Option Addr) (c1 c2:Nat) (w1 wx:World) (g:Mb doorM p w1.heap.size w1 wx) (hT:Tab wx) h1 h2=>fillD p [-1,-1,-1] [-1,-1,-1] [1,3,6] 3 a1 a2 c1 c2 w1 wx g hT h1 h2 rfl rfl (by kernel_rfl) (by kernel_rfl) door_filled.1 door_filled.2)
 have C5:=Lib.hid (fun (p:Ph) (a1 a2:Option Addr) (c1 c2:Nat) (w1 wx:World) (g:Mb doorM p w1.heap.size w1 wx) (hT:Tab wx) h1 h2=>legD p [1,3,6] [-1,-1,-1] 3 a1 a2 c1 c2 w1 wx g hT h1 h2 rfl rfl (by decide) (by kernel_rfl))
 have C6:=Lib.hid (fun (p:Ph) (a1 a2:Option Addr) (c1 c2:Nat) (w1 wx:World) (g:Mb doorM p w1.heap.size w1 wx) (hT:Tab wx) h1 h2=>legD p [10,-1,-1] [-1,-1,-1] 3 a1 a2 c1 c2 w1 wx g hT h1 h2 rfl rfl (by decide) (by kernel_rfl))
 unfold ChkD at C1 C2 C3
 unfold mdV at C1 C2 C3 C4 C5 C6
 simp only [List.length_cons,List.length_nil,Nat.zero_add,Nat.reduceAdd] at C1 C2 C3
 clear hT
 go_enter Tryz.func55,Tryz.ntmps55
 go_wp2_with fail
 refine (door_any w).mono ?_
 rintro e w1 ⟨p,rfl,hm,g1⟩
 have HG1:=Lib.hid g1
 have HB:=Lib.hid (Mb.made hm)
 unfold mdV
 clear hm g1
 have hgo:Hid (∀ wx,Mb doorM p w1.heap.size w1 wx→Tab wx):=fun wx g=>HTb.out wx (HG1.out.trans (g.bel.mono HG1.out.size))
 go_wp2_with fail
 have HB2:Hid (Mb doorM p w1.heap.size w1 ((w1.alloc (.cells #[.string doorM.nm,.slice p.a1 doorM.vars.length p.c1,.slice p.a2 doorM.evs.length p.c2,.slice p.a3 doorM.regs.length p.c3,.slice p.a4 doorM.vers.length p.c4,.slice p.a5 doorM.trns.length p.c5] 28)).alloc (.cells #[.int .i64 (-1),.int .i64 (-1),.int .i64 (-1)] 3))):=Lib.hid (HB.out.below (below_al1 _ _))
 have N2:Hid (RowIn ((w1.alloc (.cells #[.string doorM.nm,.slice p.a1 doorM.vars.length p.c1,.slice p.a2 doorM.evs.length p.c2,.slice p.a3 doorM.regs.length p.c3,.slice p.a4 doorM.vers.length p.c4,.slice p.a5 doorM.trns.length p.c5] 28)).alloc (.cells #[.int .i64 (-1),.int .i64 (-1),.int .i64 (-1)] 3)) (.slice (some ⟨w1.heap.size+1,0,none⟩) 3 3) [-1,-1,-1]):=Lib.hid (freshB _ [-1,-1,-1] _ rfl 3 rfl _ (by simp))
 (with_reducible refine (C1.out p _ _ _ _ w1 _ HB2.out (hgo.out _ HB2.out) N2.out N2.out).mono ?_)
 rintro e w3 ⟨ga,ca,rfl,g3,za,la,qa⟩
 have HB3:=Lib.hid (HB2.out.below g3)
 have N3:=Lib.hid (N2.out.below g3)
 have QA:Hid (∀ wx,Below w3.heap.size w3 wx→wx.cell? ⟨ga,0,none⟩=some (.int .u8 1)∧wx.cell? ⟨ga,1,none⟩=some (.int .i64 0)):=Lib.hid fun wx g=>⟨(g.cell (p:=⟨ga,0,none⟩) za).trans (qa 0 _ rfl),(g.cell (p:=⟨ga,1,none⟩) za).trans (qa 1 _ rfl)⟩
 clear HB HB2 N2 g3 qa C1
 obtain ⟨x0,x1,x2,x3,x4,x5,_⟩:=HB3.out.box
 go_wp2_with fail
 have HB3':=Lib.hid (HB3.out.below (below_al1 w3 (.cells #[.int .i64 (1),.int .i64 (-1),.int .i64 (-1)] 3)))
 (with_reducible refine (C2.out p _ _ _ _ w1 _ HB3'.out (hgo.out _ HB3'.out) (freshB _ [1,-1,-1] _ rfl 3 rfl _ rfl) (N3.out.below (below_al1 w3 _))).mono ?_)
 rintro e w4 ⟨gb,cb,rfl,g4,zb,lb,qb⟩
 have HB4:=Lib.hid (HB3'.out.below g4)
 have g34:=below_bx1 g4
 have N4:=Lib.hid (N3.out.below g34)
 have QA4:=Lib.hid (fun wx (g:Below w4.heap.size w4 wx)=>QA.out wx (g34.trans (g.mono g34.size)))
 have QB:Hid (∀ wx,Below w4.heap.size w4 wx→wx.cell? ⟨gb,0,none⟩=some (.int .u8 2)∧wx.cell? ⟨gb,1,none⟩=some (.int .i64 1)∧wx.cell? ⟨gb,2,none⟩=some (.int .u8 2)∧wx.cell? ⟨gb,3,none⟩=some (.int .i64 2)):=Lib.hid fun wx g=>⟨(g.cell (p:=⟨gb,0,none⟩) zb).trans (qb 0 _ rfl),(g.cell (p:=⟨gb,1,none⟩) zb).trans (qb 1 _ rfl),(g.cell (p:=⟨gb,2,none⟩) zb).trans (qb 2 _ rfl),(g.cell (p:=⟨gb,3,none⟩) zb).trans (qb 3 _ rfl)⟩
 clear HB3 HB3' N3 g4 g34 qb C2 QA x0 x1 x2 x3 x4 x5 za zb
 obtain ⟨x0,x1,x2,x3,x4,x5,_⟩:=HB4.out.box
 go_wp2_with fail
 have HB4':=Lib.hid (HB4.out.below (below_al1 w4 (.cells #[.int .i64 (10),.int .i64 (3),.int .i64 (6)] 3)))
 (with_reducible refine (C3.out p _ _ _ _ w1 _ HB4'.out (hgo.out _ HB4'.out) (freshB _ [10,3,6] _ rfl 3 rfl _ rfl) (N4.out.below (below_al1 w4 _))).mono ?_)
 rintro e w5 ⟨gc,cc,rfl,g5,zc,lc,qc⟩
 have HB5:=Lib.hid (HB4'.out.below g5)
 have g45:=below_bx1 g5
 have N5:=Lib.hid (N4.out.below g45)
 have QA5:=Lib.hid (fun wx (g:Below w5.heap.size w5 wx)=>QA4.out wx (g45.trans (g.mono g45.size)))
 have QB5:=Lib.hid (fun wx (g:Below w5.heap.size w5 wx)=>QB.out wx (g45.trans (g.mono g45.size)))
 have QC:Hid (∀ wx,Below w5.heap.size w5 wx→wx.cell? ⟨gc,2,none⟩=some (.int .u8 3)∧wx.cell? ⟨gc,3,none⟩=some (.int .i64 2)):=Lib.hid fun wx g=>⟨(g.cell (p:=⟨gc,2,none⟩) zc).trans (qc 2 _ rfl),(g.cell (p:=⟨gc,3,none⟩) zc).trans (qc 3 _ rfl)⟩
 clear HB4 HB4' N4 g5 g45 qc C3 QA4 QB x0 x1 x2 x3 x4 x5 zc
 obtain ⟨x0,x1,x2,x3,x4,x5,_⟩:=HB5.out.box
 go_wp2_with fail
 (with_reducible refine (C4.out p _ _ _ _ w1 _ HB5.out (hgo.out _ HB5.out) N5.out N5.out).mono ?_)
 rintro e w6 ⟨g6,z1,u1,z2,u2,rfl,r1,r2⟩
 have HB6:=Lib.hid (HB5.out.below g6)
 have N6:=Lib.hid (N5.out.below g6)
 have R1:=Lib.hid r1
 have R2:=Lib.hid r2
 have g7:Below w5.heap.size w5 (w6.alloc (.cells #[.slice z1 3 u1,.slice z2 3 u2] 74)):=g6.trans ((below_al1 w6 _).mono g6.size)
 obtain ⟨a0,a1⟩:=QA5.out _ g7
 obtain ⟨q0,q1,q2,q3⟩:=QB5.out _ g7
 obtain ⟨t2,t3⟩:=QC.out _ g7
 clear HB5 N5 g6 g7 C4 QA5 QB5 QC x0 x1 x2 x3 x4 x5 r1 r2
 obtain ⟨x0,x1,x2,x3,x4,x5,_⟩:=HB6.out.box
 have HB7:Hid (Mb doorM p w1.heap.size w1 (w6.alloc (.cells #[.slice z1 3 u1,.slice z2 3 u2] 74))):=Lib.hid (HB6.out.below (below_al1 _ _))
 go_wp2_with fail
 have D8:Hid (∀ wx,Below (w6.alloc (.cells #[.slice z1 3 u1,.slice z2 3 u2] 74)).heap.size (w6.alloc (.cells #[.slice z1 3 u1,.slice z2 3 u2] 74)) wx→wx.cell? ⟨w6.heap.size,0,none⟩=some (.slice z1 3 u1)∧wx.cell? ⟨w6.heap.size,1,none⟩=some (.slice z2 3 u2)):=Lib.hid fun wx g=>⟨(g.cell (p:=⟨w6.heap.size,0,none⟩) (by simp)).trans (by simp),(g.cell (p:=⟨w6.heap.size,1,none⟩) (by simp)).trans (by simp)⟩
 (with_reducible refine (same_self [1,3,6] _ _ _ ((R1.out.below (below_al1 w6 _)).below (below_al1 _ _)) (freshB (w6.alloc (.cells #[.slice z1 3 u1,.slice z2 3 u2] 74)) [1,3,6] #[.int .i64 1,.int .i64 3,.int .i64 6] rfl 3 rfl (w6.heap.size+1) (by simp)) (by decide)).mono ?_)
 rintro e w8 ⟨rfl,g8⟩
 have g78:=below_bx1 g8
 have g68:=below_bx1 g78
 have HB8:=Lib.hid (HB6.out.below g68)
 have N8:=Lib.hid (N6.out.below g68)
 have R18:=Lib.hid (R1.out.below g68)
 have R28:=Lib.hid (R2.out.below g68)
 obtain ⟨e0,e1⟩:=D8.out w8 g78
 clear g8 g78 g68 HB6 HB7 N6 R1 R2 D8 x0 x1 x2 x3 x4 x5 a0 a1 q0 q1 q2 q3 t2 t3
 obtain ⟨x0,x1,x2,x3,x4,x5,_⟩:=HB8.out.box
 go_wp2_with fail
 (with_reducible refine (C5.out p _ _ _ _ w1 _ HB8.out (hgo.out _ HB8.out) R18.out R28.out).mono ?_)
 rintro e w9 ⟨rfl,g9⟩
 have HB9:=Lib.hid (HB8.out.below g9)
 have N9:=Lib.hid (N8.out.below g9)
 clear g9 HB8 N8 R18 R28 x0 x1 x2 x3 x4 x5 e0 e1
 obtain ⟨x0,x1,x2,x3,x4,x5,_⟩:=HB9.out.box
 go_wp2_with fail
 have HB9':=Lib.hid (HB9.out.below (below_al1 w9 (.cells #[.int .i64 10,.int .i64 (-1),.int .i64 (-1)] 3)))
 (with_reducible refine (C6.out p _ _ _ _ w1 _ HB9'.out (hgo.out _ HB9'.out) (freshB _ [10,-1,-1] _ rfl 3 rfl _ rfl) (N9.out.below (below_al1 w9 _))).mono ?_)
 rintro e w10 ⟨rfl,g10⟩
 have HB10:=Lib.hid (HB9'.out.below g10)
 go_wp2_with fail
 go_ret
 exact ⟨rfl,HG1.out.trans (HB10.out.bel.mono HG1.out.size)⟩
set_option maxRecDepth 100000 in
set_option maxHeartbeats 2000000 in
theorem is26_any (la ll:List Int) (a1 a2 a3 a4:Option Addr) (c1 c2 c3 c4:Nat) (w:World) (h1:RowIn w (.slice a1 la.length c1) la) (h2:RowIn w (.slice a2 ll.length c2) ll) (h3:RowIn w (.slice a3 la.length c3) la) (h4:RowIn w (.slice a4 ll.length c4) ll) (b1:la.length≤900000) (b2:ll.length≤900000) :
   Calls Tryz.prog 122 #[.agg #[.slice a1 la.length c1,.slice a2 ll.length c2],.agg #[.slice a3 la.length c3,.slice a4 ll.length c4]] w fun e w'=>e=.returned (.bool true)∧Below w.heap.size w w':=by
 have HB:=Lib.hid (below_al2 w (.cells #[.slice a1 la.length c1,.slice a2 ll.length c2] 74) (.cells #[.slice a3 la.length c3,.slice a4 ll.length c4] 150))
 have S1:=Lib.hid (fun wx (g:Below w.heap.size w wx)=>same_self la _ _ wx (h1.below g) (h3.below g) (by omega))
 have S2:=Lib.hid (fun wx (g:Below w.heap.size w wx)=>same_self ll _ _ wx (h2.below g) (h4.below g) (by omega))
 have HD:Hid (∀ wx,Below ((w.alloc (.cells #[.slice a1 la.length c1,.slice a2 ll.length c2] 74)).alloc (.cells #[.slice a3 la.length c3,.slice a4 ll.length c4] 150)).heap.size ((w.alloc (.cells #[.slice a1 la.length c1,.slice a2 ll.length c2] 74)).alloc (.cells #[.slice a3 la.length c3,.slice a4 ll.length c4] 150)) wx→wx.cell? ⟨w.heap.size,1,none⟩=some (.slice a2 ll.length c2)∧wx.cell? ⟨w.heap.size+1,1,none⟩=some (.slice a4 ll.length c4)):=Lib.hid fun wx g=>⟨(g.cell (p:=⟨w.heap.size,1,none⟩) (by simp;omega)).trans (by simp),(g.cell (p:=⟨w.heap.size+1,1,none⟩) (by simp)).trans (by simp)⟩
 clear h1 h2 h3 h4
 go_enter Tryz.func122,Tryz.ntmps122
 go_wp2_with fail
 (with_reducible refine (S1.out _ HB.out).mono ?_)
 rintro e w3 ⟨rfl,g3⟩
 obtain ⟨d0,d1⟩:=HD.out w3 g3
 have HB3:=Lib.hid (HB.out.trans (g3.mono HB.out.size))
 clear g3
 go_wp2_with fail
 (with_reducible refine (S2.out _ HB3.out).mono ?_)
 rintro e w4 ⟨rfl,g4⟩
 go_wp2_with fail
 go_ret
 exact ⟨rfl,HB3.out.trans (g4.mono HB3.out.size)⟩
end Go.Proofs
