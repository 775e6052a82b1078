/- Walks: the document's sets: Home, Entries. -/
import Derived.Test.YtodbdacdnoeheaaGreatDoorZSgTV
import Derived.Test.YtodbdacdnoeheaaGreatDoorZSgXY
namespace Go.Proofs
open Go.RowKit Go.Lx Go.Md Go.Shelf Go.BigFrame Go.Rgi
set_option linter.unusedVariables false
theorem chn_le {m:MdlD} (h0:riM m=(0,0,0)) (v:Int):(chainM m v).length≤64:=by
 cases hv:hasV m v with
 | false=>unfold chainM;rw [hv];simp
 | true =>
  obtain ⟨k,rfl,hk⟩:=hasV_nat hv
  rw [chainM_len h0 hk,← (len_par h0 hk).1];exact (len_par h0 hk).2.1
theorem flt_snoc {P:Int→Bool} {C:List Int} {k:Nat} (hk:k<C.length):(C.take (k+1)).filter P=(C.take k).filter P ++ (if P C[k] then [C[k]] else []):=by
 rw [List.take_succ_eq_append_getElem hk,List.filter_append]
 cases h:P C[k] <;> simp [h]
theorem flt_le (P:Int→Bool) (C:List Int) (k:Nat):((C.take k).filter P).length≤C.length:=by
 have h1:=List.length_filter_le P (C.take k)
 have h2:(C.take k).length≤C.length:=by rw [List.length_take];omega
 omega
theorem fitt_of {m:MdlD} {la ll:List Int} (h0:riM m=(0,0,0)) (h:fit2 m la ll=true):Fit m la∧Fit m ll:=by
 unfold fit2 fit1 at h
 simp only [Bool.and_eq_true,beq_iff_eq] at h
 exact ⟨⟨h0,h.1.1,h.1.2⟩,⟨h0,h.2.1,h.2.2⟩⟩
theorem push_below {B N:Nat} {a w wx wy:World} {v:Value} {T:TypeId} {n:Nat} {xs:List Value} (h:Below B a w) (hN:B≤N) (ho:w.ownsRow N T 1 v n xs) (g1:Below w.heap.size w wx) (hz:B≤w.heap.size) (g:wx.grownBy wy v.ownBlock):Below B a wy :=
 (h.trans (g1.mono hz)).grown g (Nat.le_trans hz g1.size) fun q hq=>Nat.le_trans hN (ho.lt q hq).1
set_option maxRecDepth 100000 in
set_option maxHeartbeats 2000000 in
theorem shome_any {Q:Nat→BP} (m:MdlD) (p:Ph) (l:List Int) (lv:Value) (w:World) (h:Mod Q w m p) (h0:riM m=(0,0,0)) (hr:RowIn w lv l) (hl:l.length≤100000) (hvl:m.vers.length≤1000) (hrl:m.regs.length≤100000) :
   Calls Tryz.prog 33 #[stV m p,lv] w fun e w'=>e=.returned (.int .i64 (homeL m l))∧Below w.heap.size w w':=by
 have HB:=Lib.hid (Sb.made h)
 have CM:=Lib.hid (fun wx (g:Sb m p w.heap.size w wx)=>rcommon16_any m p l lv wx g.mb.mod h0 (hr.below g.mb.bel) hl hvl hrl)
 have HE:Hid (homeL m l=if l.length=0 then -1 else comR m l):=Lib.hid (by
   cases l with
   | nil=>rfl
   | cons a t=>rw [if_neg (by simp)];exact homeL_eq h0 a t)
 obtain ⟨a,c,rfl,hc,_⟩:=hr.len
 unfold ixV at CM
 unfold stV mdV at *
 generalize homeL m l=X at *
 obtain ⟨n,hn⟩:∃ n,l.length=n:=⟨_,rfl⟩
 rw [hn] at hl hc CM HE ⊢
 clear h h0 hr hn
 by_cases hz:n=0
 · have hd:((n:Int) == 0)=true:=by subst hz;rfl
   have hX:Hid (X=-1):=Lib.hid (by rw [HE.out,if_pos hz])
   clear HE hz
   go_enter Tryz.func33,Tryz.ntmps33
   go_wp2_with fail
   go_ret
   exact ⟨by rw [hX.out];first | done | rfl,HB.out.mb.bel⟩
 · have hd:((n:Int) == 0)=false:=by simp only [beq_eq_false_iff_ne,ne_eq];omega
   have hX:Hid (X=comR m l):=Lib.hid (by rw [HE.out,if_neg hz])
   clear HE hz
   go_enter Tryz.func33,Tryz.ntmps33
   obtain ⟨y0,y1,y2,y3,y4,y5⟩:=HB.out.y
   go_wp2_with fail
   (with_reducible refine (CM.out _ HB.out).mono ?_)
   rintro e w2 ⟨rfl,g2⟩
   have HB2:=Lib.hid (HB.out.below g2)
   clear y0 y1 y2 y3 y4 y5 HB g2
   go_wp2_with fail
   go_ret
   exact ⟨by rw [hX.out];first | done | rfl,HB2.out.mb.bel⟩
set_option maxRecDepth 100000 in
set_option maxHeartbeats 4000000 in
theorem sentries_any {Q:Nat→BP} (m:MdlD) (p:Ph) (r en:Int) (w:World) (h:Mod Q w m p) (h0:riM m=(0,0,0)) (hvl:m.vers.length≤1000) (hrl:m.regs.length≤100000) :
   Calls Tryz.prog 35 #[stV m p,.int .i64 r,.int .i64 en] w (RowP (entM m r en) w):=by
 obtain ⟨iI,hiI,zI0,zI1,zI2⟩:=info_parts info_Num
 unfold RowP
 have HB:=Lib.hid (Sb.made h)
 have IN:=Lib.hid (fun wx (g:Sb m p w.heap.size w wx) (v:Int)=>rin16_any m p v r wx g.mb.mod h0 (by omega) (by omega))
 have CH:=Lib.hid (fun wx (g:Sb m p w.heap.size w wx)=>rchain16_any m p en wx g.mb.mod h0 hvl hrl)
 have VX:=Lib.hid (fun wx (g:Sb m p w.heap.size w wx)=>svertex_any m p en wx g.mb.mod (by omega))
 have HE:Hid (∀ b st,inM m en r=b→stands m en=st→entM m r en=if b then (chainM m en).filter (fun v=>inM m v r) ++ (if st then [en] else []) else []):=Lib.hid fun b st hb hs=>by unfold entM;rw [hb,hs]
 have hCl:=chn_le h0 en
 unfold RowP at CH
 unfold ixV at IN CH
 unfold stV mdV at *
 generalize entM m r en=X at *
 generalize chainM m en=C at *
 obtain ⟨b,hb⟩:∃ b,inM m en r=b:=⟨_,rfl⟩
 obtain ⟨st,hst⟩:∃ b,stands m en=b:=⟨_,rfl⟩
 have HX:=Lib.hid (HE.out b st hb hst)
 have INe:=Lib.hid (fun wx g=>IN.out wx g en)
 rw [hb] at INe
 rw [hst] at VX
 clear h h0 hb hst HE
 go_enter Tryz.func35,Tryz.ntmps35
 obtain ⟨y0,y1,y2,y3,y4,y5⟩:=HB.out.y
 go_wp2_with fail
 (with_reducible refine (INe.out _ HB.out).mono ?_)
 rintro e w2 ⟨rfl,g2⟩
 have HB2:=Lib.hid (HB.out.below g2)
 clear y0 y1 y2 y3 y4 y5 HB g2 INe
 obtain ⟨y0,y1,y2,y3,y4,y5⟩:=HB2.out.y
 cases b
 · have hX:Hid (X=[]):=Lib.hid (HX.out.trans (if_neg (by decide)))
   go_wp2_with fail
   go_ret
   rw [hX.out]
   exact ⟨_,rfl,World.ownsRow_nil _ _ _ _,HB2.out.mb.bel⟩
 have hX:Hid (X=C.filter (fun v=>inM m v r) ++ (if st then [en] else [])):=Lib.hid (HX.out.trans (if_pos rfl))
 clear HX
 go_wp2_with fail
 (with_reducible refine (CH.out _ HB2.out).mono ?_)
 rintro e w3 ⟨v3,rfl,o3,g3⟩
 have HB3:=Lib.hid (HB2.out.below g3)
 have R3:=Lib.hid (RowIn.own o3)
 obtain ⟨a,c,rfl,hc,_⟩:=R3.out.len
 have HR:=Lib.hid (fun (wx:World) (g:Below w3.heap.size w3 wx)=>(R3.out.below g).len)
 have hw3:w.heap.size≤w3.heap.size:=HB3.out.mb.bel.size
 clear y0 y1 y2 y3 y4 y5 HB2 o3 g3 CH R3
 obtain ⟨n,hn⟩:∃ n,C.length=n:=⟨_,rfl⟩
 have HN:=Lib.hid hn
 rw [hn] at hCl hc ⊢
 clear hn
 go_wp2_with fail
 go_loopw [7,9] (fun o i wr=>∃ k:Nat,k≤n∧i=.int .i64 k∧Below w3.heap.size w3 wr∧wr.ownsRow w3.heap.size 3 1 o ((C.take k).filter fun v=>inM m v r).length (nums ((C.take k).filter fun v=>inM m v r))) (fun _ i _=>n - (intOf i).toNat)
 case atStart=>exact ⟨0,by omega,rfl,Below.refl _ _,World.ownsRow_nil _ _ _ _⟩
 case round =>
  obtain ⟨wo,rfl⟩:∃ wo:World,wo=wr:=⟨_,rfl⟩
  obtain ⟨k,hk,rfl,hb,ho⟩:=hrel
  have HBo:=Lib.hid hb
  have HSo:=Lib.hid (HB3.out.below hb)
  have HO:=Lib.hid ho
  have hz5:w3.heap.size≤wo.heap.size:=hb.size
  have hln:((C.take k).filter fun v=>inM m v r).length≤64:=by have:=flt_le (fun v=>inM m v r) C k;have:=HN.out;omega
  clear hb ho
  by_cases hlt:k<n
  · have hkl:k<C.length:=by rw [HN.out];exact hlt
    obtain ⟨a',c',e,_,q⟩:=HR.out wo HBo.out
    obtain ⟨b1,o1,ea,hbl,hcl⟩:=q k hkl
    simp only [Value.slice.injEq] at e
    obtain ⟨rfl,e',rfl⟩:=e
    clear e'
    subst ea
    have hI:(k:Int)<(n:Int):=by omega
    have hI0:(0:Int)≤(k:Int):=by omega
    have hS:=flt_snoc (P:=fun v=>inM m v r) hkl
    obtain ⟨x,hx⟩:∃ x,C[k]=x:=⟨_,rfl⟩
    rw [hx] at hcl hS
    have INx:=Lib.hid (fun wx (g:Below wo.heap.size wo wx)=>IN.out wx (HSo.out.below g) x)
    obtain ⟨b,hb⟩:∃ b,inM m x r=b:=⟨_,rfl⟩
    rw [hb] at INx
    have hS2:=Lib.hid hS
    have HSS:Hid (∀ W',Below wo.heap.size wo W'→(W'.cell? ⟨w.heap.size,6,none⟩=some (.string m.nm)∧W'.cell? ⟨w.heap.size,7,none⟩=some (.slice p.a1 m.vars.length p.c1)∧W'.cell? ⟨w.heap.size,8,none⟩=some (.slice p.a2 m.evs.length p.c2)∧W'.cell? ⟨w.heap.size,9,none⟩=some (.slice p.a3 m.regs.length p.c3)∧W'.cell? ⟨w.heap.size,10,none⟩=some (.slice p.a4 m.vers.length p.c4)∧W'.cell? ⟨w.heap.size,11,none⟩=some (.slice p.a5 m.trns.length p.c5))∧W'.cell? ⟨b1,o1+k,none⟩=some (.int .i64 x)):=Lib.hid fun W' g=>⟨(HSo.out.below g).y,(g.cell (p:=⟨b1,o1+k,none⟩) hbl).trans hcl⟩
    have hB0:Below wo.heap.size wo wo:=Below.refl _ _
    clear q hx hS hcl IN HR
    go_wp2_with fail
    refine wp_region_any (by kernel_rfl) ?_
    change wpAny _ _ _ _ _ _ _ (World.drew _)
    refine wpAny_of_heldS (S:=(fun W'=>(W'.cell? ⟨w.heap.size,6,none⟩=some (.string m.nm)∧W'.cell? ⟨w.heap.size,7,none⟩=some (.slice p.a1 m.vars.length p.c1)∧W'.cell? ⟨w.heap.size,8,none⟩=some (.slice p.a2 m.evs.length p.c2)∧W'.cell? ⟨w.heap.size,9,none⟩=some (.slice p.a3 m.regs.length p.c3)∧W'.cell? ⟨w.heap.size,10,none⟩=some (.slice p.a4 m.vers.length p.c4)∧W'.cell? ⟨w.heap.size,11,none⟩=some (.slice p.a5 m.trns.length p.c5))∧W'.cell? ⟨b1,o1+k,none⟩=some (.int .i64 x))) ?_ (fun hHeld=>?_)
    · (try dsimp only) <;> (first | exact HSS.out _ (by assumption) | exact HSS.out _ hB0.drew)
    refine tk 0 rfl ?_
    try simp only [Act.put,lyA,lyZ,lyS]
    refine tk 1 rfl ?_
    try simp only [Act.put,lyA,lyZ,lyS]
    refine tk 2 rfl ?_
    try simp only [Act.put,lyA,lyZ,lyS]
    refine tk 3 rfl ?_
    try simp only [Act.put,lyA,lyZ,lyS]
    refine tk 4 rfl ?_
    try simp only [Act.put,lyA,lyZ,lyS]
    refine tk 5 rfl ?_
    try simp only [Act.put,lyA,lyZ,lyS]
    refine tk 6 rfl ?_
    try simp only [Act.put,lyA,lyZ,lyS]
    refine rdy [7] ?_
    refine rdC rfl (fun K hK=>?_) ?_
    (go_simp;(with_reducible refine (INx.out _ (by first | assumption | exact hB0.drew)).mono ?_);rintro e w4 ⟨rfl,hb4⟩;have hB4:=below_ch (by first | assumption | exact hB0.drew) hb4;go_wp2_with fail)
    refine hK.out _ _ ?_ (fun hH1=>?_)
    · (try dsimp only) <;> (first | exact HSS.out _ (by assumption) | exact HSS.out _ hB0.drew)
    clear hK K hHeld
    try simp only [Act.put,lyA,lyZ,lyS]
    refine wpAnyH_done (by kernel_rfl) ?_ _
    rotate_left
    exact AllReadyH.nil
    all_goals
      have hB5:Below wo.heap.size wo w4:=hB4
      have hcl5:=(HSS.out w4 hB5).2
      have hz4:wo.heap.size≤w4.heap.size:=hB5.size
      have HO4:=Lib.hid (ownsRow_keep HO.out hB5)
      cases b
      · have hS3:Hid ((C.take (k+1)).filter (fun v=>inM m v r)=(C.take k).filter fun v=>inM m v r):=Lib.hid (by rw [hS2.out,hb];simp)
        clear hS2 hb
        go_wp2_with fail
        go_roundw
        case rel=>exact ⟨k+1,by omega,by go_num,below_ch HBo.out hB5,by rw [hS3.out];exact HO4.out⟩
        case measure=>simp [intOf] <;> omega
      · have hS3:Hid ((C.take (k+1)).filter (fun v=>inM m v r)=((C.take k).filter fun v=>inM m v r) ++ [x]):=Lib.hid (by rw [hS2.out,hb];simp)
        clear hS2 hb
        go_wp2_with (at_builtin;refine wpList_append_row _ rfl _ _ 29 rfl 3 w3.heap.size iI (.int .i64 0) Tryz.underlying29 hiI zI0 zI1 zI2 rfl _ ((C.take k).filter fun v=>inM m v r) rfl (HO4.out.alloc _) _ [x] rfl (row1 _ _ _) (by simp;omega) (by simp;omega) ?_;intro v5 w5 hown5 hgrow5 hnxt5)
        have HB5:=Lib.hid (push_below (below_ch HBo.out hB5) (Nat.le_refl _) HO4.out (below_al1 _ _) (by omega) hgrow5)
        go_roundw
        case rel=>exact ⟨k+1,by omega,by go_num,HB5.out,by rw [hS3.out];exact hown5⟩
        case measure=>simp [intOf] <;> omega
  · obtain rfl:k=n:=by omega
    have hT:C.take k=C:=by rw [← HN.out,List.take_length]
    rw [hT] at HO hln
    clear hT HR IN
    obtain ⟨x0,x1,x2,x3,x4,x5,_⟩:=HSo.out.mb.box
    obtain ⟨y0,y1,y2,y3,y4,y5⟩:=HSo.out.y
    go_wp2_with fail
    (with_reducible refine (VX.out _ HSo.out).mono ?_)
    rintro e w4 ⟨rfl,g4⟩
    have HO4:=Lib.hid (ownsRow_keep HO.out g4)
    have hB4:=below_ch HBo.out g4
    have hz4:wo.heap.size≤w4.heap.size:=g4.size
    have HBw:=Lib.hid (below_ch HSo.out.mb.bel g4)
    generalize (C.filter fun v=>inM m v r)=D at *
    cases st
    · have hX2:Hid (X=D):=Lib.hid (hX.out.trans (by simp))
      go_wp2_with fail
      go_ret
      rw [hX2.out]
      exact ⟨_,rfl,HO4.out.mono hw3,HBw.out⟩
    · have hX2:Hid (X=D ++ [en]):=Lib.hid (hX.out.trans (by simp))
      clear x0 x1 x2 x3 x4 x5 y0 y1 y2 y3 y4 y5 g4
      go_wp2_with (at_builtin;refine wpList_append_row _ rfl _ _ 29 rfl 3 w3.heap.size iI (.int .i64 0) Tryz.underlying29 hiI zI0 zI1 zI2 rfl _ D rfl (HO4.out.alloc _) _ [en] rfl (row1 _ _ _) (by simp;omega) (by simp;omega) ?_;intro v5 w5 hown5 hgrow5 hnxt5)
      have HB5:=Lib.hid (push_below hB4 (Nat.le_refl _) HO4.out (below_al1 _ _) (by omega) hgrow5)
      go_ret
      rw [hX2.out]
      exact ⟨_,rfl,hown5.mono hw3,HB3.out.mb.bel.trans (HB5.out.mono hw3)⟩
def exQ (m:MdlD) (c:List Int) (f:Nat) (R:List Int) (k:Nat):List Int:=(R.take k).flatMap (exF m c f)
theorem exQ_succ (m:MdlD) (c:List Int) (f:Nat) (R:List Int) {k:Nat} (hk:k<R.length):exQ m c f R (k+1)=exQ m c f R k ++ exF m c f R[k]:=by
 unfold exQ;rw [List.take_succ_eq_append_getElem hk,List.flatMap_append];simp
theorem exQ_all (m:MdlD) (c:List Int) (f:Nat) (R:List Int):exQ m c f R R.length=R.flatMap (exF m c f):=by unfold exQ;rw [List.take_length]
theorem exF_len {m:MdlD} {c:List Int} (F:Fit m c) {f r:Nat} (hr:r<m.regs.length):(exF m c f r).length≤m.vers.length :=
 nodup_le _ _ (ex_nodup F f r hr) fun x hx=>by
   obtain ⟨k,v,e,hk,_⟩:=ex_in F f r hr x hx
   exact ⟨k,e,hk⟩
theorem flat_len {g:Int→List Int} {N:Nat}:∀ (R:List Int),(∀ q ∈ R,(g q).length≤N)→(R.flatMap g).length≤R.length * N
 | [],_=>by simp
 | q :: t,h=>by
   have h1:=h q (by simp)
   have h2:=flat_len t fun x hx=>h x (by simp [hx])
   rw [List.flatMap_cons,List.length_append,List.length_cons,Nat.succ_mul]
   omega
set_option maxRecDepth 100000 in
set_option maxHeartbeats 8000000 in
theorem sexits_fit (m:MdlD) (p:Ph) (la ll:List Int) (a1 a2:Option Addr) (c1 c2:Nat) (F:Fit m la) (F2:Fit m ll) (hvl:m.vers.length≤100) (hrl:m.regs.length≤100):∀ (f r:Nat) (Q:Nat→BP) (w:World),r<m.regs.length→(∀ k:Nat,atL la r=k→65≤deM m k+f)→Mod Q w m p→RowIn w (.slice a1 la.length c1) la→RowIn w (.slice a2 ll.length c2) ll →
   Calls Tryz.prog 34 #[stV m p,.agg #[.slice a1 la.length c1,.slice a2 ll.length c2],.int .i64 (r:Int)] w (RowP (exF m la f r) w)
 | f,r,Q,w,hr,hf,h,h1,h2=>by
   obtain ⟨iI,hiI,zI0,zI1,zI2⟩:=info_parts info_Num
   have h0:=F.h0
   have hll:la.length≤100:=by rw [F.hl];omega
   have HC:=Lib.hid (Sc.made (ll:=ll) (a2:=a2) (c2:=c2) h h1)
   have FT:=Lib.hid (fun wx (g:Sc m p la ll a1 a2 c1 c2 w wx)=>sfits_any m p la ll a1 a2 c1 c2 wx g.sb.mb.mod h0 g.r1 (h2.below g.sb.mb.bel) (by rw [F.hl];omega) (by rw [F2.hl];omega) (by omega) (by omega))
   have hft:fit2 m la ll=true:=by unfold fit2 fit1;rw [F.hl,F.hf,F2.hl,F2.hf];simp
   rw [hft] at FT
   have hrl2:r<la.length:=by rw [F.hl];exact hr
   obtain ⟨a1',c1',e,hc,q⟩:=h1.len
   simp only [Value.slice.injEq] at e
   obtain ⟨e1,_,e2⟩:=e
   rw [← e2] at hc
   rw [← e1] at q
   obtain ⟨b1,o1,ea,hb1,hc1⟩:=q r hrl2
   rw [← atL_at hrl2] at hc1
   have hr0:(0:Int)≤(r:Int):=by omega
   have hrI:(r:Int)<(la.length:Int):=by omega
   have HK:Hid (∀ wx,Below w.heap.size w wx→wx.cell? ⟨b1,o1+r,none⟩=some (.int .i64 (atL la r))):=Lib.hid fun wx g=>(g.cell (p:=⟨b1,o1+r,none⟩) hb1).trans hc1
   unfold RowP
   by_cases hn:atL la r<0
   · have hnil:exF m la f r=[]:=by cases f <;> simp [exF,hn]
     rw [hnil]
     subst ea
     unfold stV at *
     generalize atL la r=y at HK hn
     clear h h0 h1 h2 e1 e2 q hc1 hb1 hft hf hnil
     go_enter Tryz.func34,Tryz.ntmps34
     obtain ⟨x0,x1,x2,x3,x4,x5,_⟩:=HC.out.sb.mb.box
     obtain ⟨y0,y1,y2,y3,y4,y5⟩:=HC.out.sb.y
     have d0:=HC.out.d0
     have d1:=HC.out.d1
     go_wp2_with fail
     (with_reducible refine (FT.out _ HC.out).mono ?_)
     rintro e w2 ⟨rfl,g2⟩
     have HC2:=Lib.hid (HC.out.below g2)
     clear x0 x1 x2 x3 x4 x5 y0 y1 y2 y3 y4 y5 d0 d1 HC g2
     have d0:=HC2.out.d0
     have hc2:=HK.out w2 HC2.out.sb.mb.bel
     go_wp2_with fail
     go_ret
     exact ⟨_,rfl,World.ownsRow_nil _ _ _ _,HC2.out.sb.mb.bel⟩
   · obtain ⟨v,hv,e,hg,hd,ha⟩:=fit_in F.hl F.hf hr (by omega)
     obtain ⟨f,rfl⟩:∃ g,f=g+1:=⟨f - 1,by have:=hf v e;have:=deep_right F.h0 hv;omega⟩
     have HXs:Hid (exF m la (f+1) r=(ownM m (v:Int)).flatMap (exF m la f) ++ [(v:Int)]):=Lib.hid (by rw [exF,if_neg hn,e])
     have RG:=Lib.hid (fun wx (g:Sc m p la ll a1 a2 c1 c2 w wx)=>rregions16_any m p (v:Int) wx g.sb.mb.mod (by omega))
     have HSq:Hid (∀ q ∈ ownM m (v:Int),(exF m la f q).length≤100∧∀ wx,Sc m p la ll a1 a2 c1 c2 w wx→Calls Tryz.prog 34 #[stV m p,.agg #[.slice a1 la.length c1,.slice a2 ll.length c2],.int .i64 q] wx (RowP (exF m la f q) wx)):=Lib.hid fun q hq=>by
       obtain ⟨j,hj,rfl,ho⟩:=own_at hq
       refine ⟨by have:=exF_len F (f:=f) hj;omega,fun wx g=>sexits_fit m p la ll a1 a2 c1 c2 F F2 hvl hrl f j _ wx hj (fun k hk=>?_) g.sb.mb.mod g.r1 (h2.below g.sb.mb.bel)⟩
       obtain ⟨y,hy,ey,gy,dy,_⟩:=fit_in F.hl F.hf hj (by omega)
       obtain rfl:k=y:=by omega
       have:=(below_own F hj ho hv hy hk gy dy).2
       have:=hf v e
       omega
     have hLn:(ownM m (v:Int)).length≤100:=by have:=sel_len (isOwn (v:Int)) m.regs;have e:(ownM m (v:Int)).length≤m.regs.length:=this;omega
     have HLf:Hid (∀ k,(exQ m la f (ownM m (v:Int)) k).length≤10000):=Lib.hid fun k=>by
       have h1:=flat_len (g:=exF m la f) (N:=100) ((ownM m (v:Int)).take k) fun q hq=>(HSq.out q (List.mem_of_mem_take hq)).1
       have h2:((ownM m (v:Int)).take k).length≤100:=by rw [List.length_take];omega
       have h3:((ownM m (v:Int)).take k).length * 100≤100 * 100:=Nat.mul_le_mul_right _ h2
       unfold exQ;omega
     unfold RowP at HSq RG
     unfold ixV at RG
     unfold stV mdV at *
     generalize exF m la (f+1) r=X at *
     rw [e] at HK
     have HQs:=Lib.hid (fun (k:Nat) (hk:k<(ownM m (v:Int)).length)=>exQ_succ m la f (ownM m (v:Int)) hk)
     have HQa:=Lib.hid (exQ_all m la f (ownM m (v:Int)))
     have HQ0:Hid (exQ m la f (ownM m (v:Int)) 0=[]):=Lib.hid (by unfold exQ;simp)
     generalize ownM m (v:Int)=R at *
     have hv0:¬ ((v:Int)<0):=by omega
     subst ea
     clear h h0 h1 h2 e1 e2 q hc1 hb1 hft hf hn hg hd ha F F2 e
     go_enter Tryz.func34,Tryz.ntmps34
     obtain ⟨x0,x1,x2,x3,x4,x5,_⟩:=HC.out.sb.mb.box
     obtain ⟨y0,y1,y2,y3,y4,y5⟩:=HC.out.sb.y
     have d0:=HC.out.d0
     have d1:=HC.out.d1
     go_wp2_with fail
     (with_reducible refine (FT.out _ HC.out).mono ?_)
     rintro e w2 ⟨rfl,g2⟩
     have HC2:=Lib.hid (HC.out.below g2)
     clear x0 x1 x2 x3 x4 x5 y0 y1 y2 y3 y4 y5 d0 d1 HC g2 FT
     have d0:=HC2.out.d0
     have hc2:=HK.out w2 HC2.out.sb.mb.bel
     obtain ⟨y0,y1,y2,y3,y4,y5⟩:=HC2.out.sb.y
     go_wp2_with fail
     (with_reducible refine (RG.out _ HC2.out).mono ?_)
     rintro e w3 ⟨v3,rfl,o3,g3⟩
     have HC3:=Lib.hid (HC2.out.below g3)
     have R3:=Lib.hid (RowIn.own o3)
     obtain ⟨a,c,rfl,hcr,_⟩:=R3.out.len
     have HR:=Lib.hid (fun (wx:World) (g:Below w3.heap.size w3 wx)=>(R3.out.below g).len)
     have hw3:w.heap.size≤w3.heap.size:=HC3.out.sb.mb.bel.size
     clear y0 y1 y2 y3 y4 y5 d0 hc2 HC2 o3 g3 RG R3 HK
     obtain ⟨n,hn⟩:∃ n,R.length=n:=⟨_,rfl⟩
     have HN:=Lib.hid hn
     rw [hn] at hLn hcr ⊢
     clear hn
     go_wp2_with fail
     go_loopw [7,10] (fun o i wr=>∃ k:Nat,k≤n∧i=.int .i64 k∧Below w3.heap.size w3 wr∧wr.ownsRow w3.heap.size 3 1 o (exQ m la f R k).length (nums (exQ m la f R k))) (fun _ i _=>n - (intOf i).toNat)
     case atStart=>exact ⟨0,by omega,rfl,Below.refl _ _,by rw [HQ0.out];exact World.ownsRow_nil _ _ _ _⟩
     case round =>
      obtain ⟨wo,rfl⟩:∃ wo:World,wo=wr:=⟨_,rfl⟩
      obtain ⟨k,hk,rfl,hb,ho⟩:=hrel
      have HBo:=Lib.hid hb
      have HSo:=Lib.hid (HC3.out.below hb)
      have HO:=Lib.hid ho
      have hz5:w3.heap.size≤wo.heap.size:=hb.size
      have hln:=HLf.out k
      clear hb ho HQ0
      by_cases hlt:k<n
      · have hkl:k<R.length:=by rw [HN.out];exact hlt
        obtain ⟨a',c',e,_,q⟩:=HR.out w3 (Below.refl _ _)
        obtain ⟨b2,o2,ea,hbl,hcl⟩:=q k hkl
        simp only [Value.slice.injEq] at e
        obtain ⟨rfl,e',rfl⟩:=e
        clear e'
        subst ea
        have hI:(k:Int)<(n:Int):=by omega
        have hI0:(0:Int)≤(k:Int):=by omega
        have hS:=HQs.out k hkl
        have hQ:=HSq.out _ (List.getElem_mem hkl)
        obtain ⟨x,hx⟩:∃ x,R[k]=x:=⟨_,rfl⟩
        rw [hx] at hcl hS hQ
        have HS2:=Lib.hid hS
        have hlx:=hQ.1
        have HE:=Lib.hid (fun wx (g:Below wo.heap.size wo wx)=>hQ.2 wx (HSo.out.below g))
        have HSS:Hid (∀ W',Below w3.heap.size w3 W'→(W'.cell? ⟨w.heap.size,0,none⟩=some (.string m.nm)∧W'.cell? ⟨w.heap.size,1,none⟩=some (.slice p.a1 m.vars.length p.c1)∧W'.cell? ⟨w.heap.size,2,none⟩=some (.slice p.a2 m.evs.length p.c2)∧W'.cell? ⟨w.heap.size,3,none⟩=some (.slice p.a3 m.regs.length p.c3)∧W'.cell? ⟨w.heap.size,4,none⟩=some (.slice p.a4 m.vers.length p.c4)∧W'.cell? ⟨w.heap.size,5,none⟩=some (.slice p.a5 m.trns.length p.c5))∧(W'.cell? ⟨w.heap.size,6,none⟩=some (.string m.nm)∧W'.cell? ⟨w.heap.size,7,none⟩=some (.slice p.a1 m.vars.length p.c1)∧W'.cell? ⟨w.heap.size,8,none⟩=some (.slice p.a2 m.evs.length p.c2)∧W'.cell? ⟨w.heap.size,9,none⟩=some (.slice p.a3 m.regs.length p.c3)∧W'.cell? ⟨w.heap.size,10,none⟩=some (.slice p.a4 m.vers.length p.c4)∧W'.cell? ⟨w.heap.size,11,none⟩=some (.slice p.a5 m.trns.length p.c5))∧W'.cell? ⟨w.heap.size+1,0,none⟩=some (.slice (some ⟨b1,o1,none⟩) la.length c1)∧W'.cell? ⟨w.heap.size+1,1,none⟩=some (.slice a2 ll.length c2)∧W'.cell? ⟨b2,o2+k,none⟩=some (.int .i64 x)):=Lib.hid fun W' g=>by
          have hh:=HC3.out.below g
          obtain ⟨x0,x1,x2,x3,x4,x5,_⟩:=hh.sb.mb.box
          exact ⟨⟨x0,x1,x2,x3,x4,x5⟩,hh.sb.y,hh.d0,hh.d1,(g.cell (p:=⟨b2,o2+k,none⟩) hbl).trans hcl⟩
        have hB0:Below wo.heap.size wo wo:=Below.refl _ _
        clear q hx hS hcl hQ HR HSq HQs HQa
        generalize exF m la f x=E at *
        go_wp2_with fail
        refine wp_region_any (by kernel_rfl) ?_
        change wpAny _ _ _ _ _ _ _ (World.drew _)
        refine wpAny_of_heldS (S:=(fun W'=>(W'.cell? ⟨w.heap.size,0,none⟩=some (.string m.nm)∧W'.cell? ⟨w.heap.size,1,none⟩=some (.slice p.a1 m.vars.length p.c1)∧W'.cell? ⟨w.heap.size,2,none⟩=some (.slice p.a2 m.evs.length p.c2)∧W'.cell? ⟨w.heap.size,3,none⟩=some (.slice p.a3 m.regs.length p.c3)∧W'.cell? ⟨w.heap.size,4,none⟩=some (.slice p.a4 m.vers.length p.c4)∧W'.cell? ⟨w.heap.size,5,none⟩=some (.slice p.a5 m.trns.length p.c5))∧(W'.cell? ⟨w.heap.size,6,none⟩=some (.string m.nm)∧W'.cell? ⟨w.heap.size,7,none⟩=some (.slice p.a1 m.vars.length p.c1)∧W'.cell? ⟨w.heap.size,8,none⟩=some (.slice p.a2 m.evs.length p.c2)∧W'.cell? ⟨w.heap.size,9,none⟩=some (.slice p.a3 m.regs.length p.c3)∧W'.cell? ⟨w.heap.size,10,none⟩=some (.slice p.a4 m.vers.length p.c4)∧W'.cell? ⟨w.heap.size,11,none⟩=some (.slice p.a5 m.trns.length p.c5))∧W'.cell? ⟨w.heap.size+1,0,none⟩=some (.slice (some ⟨b1,o1,none⟩) la.length c1)∧W'.cell? ⟨w.heap.size+1,1,none⟩=some (.slice a2 ll.length c2)∧W'.cell? ⟨b2,o2+k,none⟩=some (.int .i64 x))) ?_ (fun hHeld=>?_)
        · (try dsimp only) <;> (first | exact HSS.out _ hB7 | exact HSS.out _ hB4 | exact HSS.out _ HBo.out.drew)
        refine tk 0 rfl ?_
        try simp only [Act.put,lyA,lyZ,lyS]
        refine tk 1 rfl ?_
        try simp only [Act.put,lyA,lyZ,lyS]
        refine tk 2 rfl ?_
        try simp only [Act.put,lyA,lyZ,lyS]
        refine tk 3 rfl ?_
        try simp only [Act.put,lyA,lyZ,lyS]
        refine tk 4 rfl ?_
        try simp only [Act.put,lyA,lyZ,lyS]
        refine tk 5 rfl ?_
        try simp only [Act.put,lyA,lyZ,lyS]
        refine tk 6 rfl ?_
        try simp only [Act.put,lyA,lyZ,lyS]
        refine rdy [7] ?_
        refine rdC rfl (fun K hK=>?_) ?_
        (go_simp;(with_reducible refine (HE.out _ hB0.drew).mono ?_);rintro e w4 ⟨v4,rfl,o4,hb4⟩;have hT4:Below wo.heap.size wo w4:=hB0.drew.trans hb4;have hB4:=below_ch HBo.out hT4;have HO4:=Lib.hid (ownsRow_keep HO.out hT4);have R4:=Lib.hid (RowIn.own o4);clear o4 hb4;go_wp2_with fail)
        refine hK.out _ _ ?_ (fun hH1=>?_)
        · (try dsimp only) <;> (first | exact HSS.out _ hB7 | exact HSS.out _ hB4 | exact HSS.out _ HBo.out.drew)
        clear hK K hHeld
        try simp only [Act.put,lyA,lyZ,lyS]
        refine rdy [8] ?_
        refine rdC rfl (fun K hK=>?_) ?_
        ((refine step_append_row _ (by rfl) _ _ _ (by rfl) 3 w3.heap.size iI (.int .i64 0) Tryz.underlying29 hiI zI0 zI1 zI2 (by rfl) _ (exQ m la f R k) (by rfl) HO4.out _ E (by rfl) R4.out (by omega) hB4.size ?_;intro v7 w7 hown7 hgrow7 hnx7;have hB7:Below w3.heap.size w3 w7:=Below.grown hB4 hgrow7 hB4.size (fun j hj=>(HO4.out.lt j hj).1)))
        refine hK.out _ _ ?_ (fun hH2=>?_)
        · (try dsimp only) <;> (first | exact HSS.out _ hB7 | exact HSS.out _ hB4 | exact HSS.out _ HBo.out.drew)
        clear hK K hH1
        try simp only [Act.put,lyA,lyZ,lyS]
        refine tk 9 rfl ?_
        try simp only [Act.put,lyA,lyZ,lyS]
        refine wpAnyH_done (by kernel_rfl) ?_ _
        rotate_left
        exact AllReadyH.nil
        exact AllReadyH.nil
        all_goals
          go_wp2_with fail
          go_roundw
          case rel=>exact ⟨k+1,by omega,by go_num,hB7,by rw [HS2.out];exact hown7⟩
          case measure=>simp [intOf] <;> omega
      · obtain rfl:k=n:=by omega
        rw [← HN.out,HQa.out] at HO hln
        clear HR HSq HQs HQa HSo
        generalize R.flatMap (exF m la f)=D at *
        go_wp2_with (at_builtin;refine wpList_append_row _ rfl _ _ 29 rfl 3 w3.heap.size iI (.int .i64 0) Tryz.underlying29 hiI zI0 zI1 zI2 rfl _ D rfl (HO.out.alloc _) _ [(v:Int)] rfl (row1 _ _ _) (by simp;omega) (by simp;omega) ?_;intro v5 w5 hown5 hgrow5 hnxt5)
        have HB5:=Lib.hid (push_below HBo.out (Nat.le_refl _) HO.out (below_al1 _ _) (by omega) hgrow5)
        go_ret
        rw [HXs.out]
        exact ⟨_,rfl,hown5.mono hw3,HC3.out.sb.mb.bel.trans (HB5.out.mono hw3)⟩
 termination_by f=>f
def mayR (m:MdlD) (la ll:List Int) (v:Int):Nat:=if fit2 m la ll && stands m v then 0 else 2
def StepR (E:Nat) (ok:Bool) (la ll:List Int) (w:World) (e:Ending) (w':World):Prop:=Below w.heap.size w w' ∧
 ((E≠0∧e=.returned (.tuple #[.agg #[.slice none 0 0,.slice none 0 0],.int .i64 (E:Int)])) ∨
  (E=0∧ok=false∧e=.returned (.tuple #[.agg #[.slice none 0 0,.slice none 0 0],.int .i64 4])) ∨
  (E=0∧ok=true∧∃ a1 k1 a2 k2,e=.returned (.tuple #[.agg #[.slice a1 la.length k1,.slice a2 ll.length k2],.int .i64 0])∧RowIn w' (.slice a1 la.length k1) la∧RowIn w' (.slice a2 ll.length k2) ll))
structure Er (m:MdlD) (p:Ph) (la ll:List Int) (a1 a2:Option Addr) (c1 c2:Nat) (w wx:World):Prop where
 sc:Sc m p la ll a1 a2 c1 c2 w wx
 r0:wx.cell? ⟨w.heap.size+1+1,0,none⟩=some (.slice none 0 0)
 r1:wx.cell? ⟨w.heap.size+1+1,1,none⟩=some (.slice none 0 0)
 q0:wx.frozen? ⟨w.heap.size+1+1,0,none⟩=false
 q1:wx.frozen? ⟨w.heap.size+1+1,1,none⟩=false
 sz:w.heap.size+1+1<wx.heap.size
theorem Er.below {m:MdlD} {p:Ph} {la ll:List Int} {a1 a2:Option Addr} {c1 c2:Nat} {w wx wy:World} (h:Er m p la ll a1 a2 c1 c2 w wx) (g:Below wx.heap.size wx wy):Er m p la ll a1 a2 c1 c2 w wy :=
 ⟨h.sc.below g,(g.cell (p:=⟨w.heap.size+1+1,0,none⟩) h.sz).trans h.r0,(g.cell (p:=⟨w.heap.size+1+1,1,none⟩) h.sz).trans h.r1,(g.frozen (p:=⟨w.heap.size+1+1,0,none⟩) h.sz).trans h.q0,(g.frozen (p:=⟨w.heap.size+1+1,1,none⟩) h.sz).trans h.q1,Nat.lt_of_lt_of_le h.sz g.size⟩
theorem Er.made {Q:Nat→BP} {m:MdlD} {p:Ph} {la ll:List Int} {a1 a2:Option Addr} {c1 c2:Nat} {w:World} (h:Mod Q w m p) (h1:RowIn w (.slice a1 la.length c1) la) :
   Er m p la ll a1 a2 c1 c2 w (((w.alloc (.cells #[.string m.nm,.slice p.a1 m.vars.length p.c1,.slice p.a2 m.evs.length p.c2,.slice p.a3 m.regs.length p.c3,.slice p.a4 m.vers.length p.c4,.slice p.a5 m.trns.length p.c5,.string m.nm,.slice p.a1 m.vars.length p.c1,.slice p.a2 m.evs.length p.c2,.slice p.a3 m.regs.length p.c3,.slice p.a4 m.vers.length p.c4,.slice p.a5 m.trns.length p.c5] 48)).alloc (.cells #[.slice a1 la.length c1,.slice a2 ll.length c2] 62)).alloc (.cells #[.slice none 0 0,.slice none 0 0] 62)):=by
 have hs:=Sc.made (ll:=ll) (a2:=a2) (c2:=c2) h h1
 have hz:((w.alloc (.cells #[.string m.nm,.slice p.a1 m.vars.length p.c1,.slice p.a2 m.evs.length p.c2,.slice p.a3 m.regs.length p.c3,.slice p.a4 m.vers.length p.c4,.slice p.a5 m.trns.length p.c5,.string m.nm,.slice p.a1 m.vars.length p.c1,.slice p.a2 m.evs.length p.c2,.slice p.a3 m.regs.length p.c3,.slice p.a4 m.vers.length p.c4,.slice p.a5 m.trns.length p.c5] 48)).alloc (.cells #[.slice a1 la.length c1,.slice a2 ll.length c2] 62)).heap.size=w.heap.size+1+1:=by simp
 have e:=World.alloc_heap_new ((w.alloc (.cells #[.string m.nm,.slice p.a1 m.vars.length p.c1,.slice p.a2 m.evs.length p.c2,.slice p.a3 m.regs.length p.c3,.slice p.a4 m.vers.length p.c4,.slice p.a5 m.trns.length p.c5,.string m.nm,.slice p.a1 m.vars.length p.c1,.slice p.a2 m.evs.length p.c2,.slice p.a3 m.regs.length p.c3,.slice p.a4 m.vers.length p.c4,.slice p.a5 m.trns.length p.c5] 48)).alloc (.cells #[.slice a1 la.length c1,.slice a2 ll.length c2] 62)) (.cells #[.slice none 0 0,.slice none 0 0] 62)
 rw [hz] at e
 refine ⟨hs.below (below_al1 _ _),cell_blk e 0,cell_blk e 1,frz_rc e 0,frz_rc e 1,by simp⟩
theorem Er.low {m:MdlD} {p:Ph} {la ll:List Int} {a1 a2:Option Addr} {c1 c2:Nat} {w wx:World} (h:Er m p la ll a1 a2 c1 c2 w wx) (u v:Value):Below w.heap.size w ((wx.setCell ⟨w.heap.size+1+1,0,none⟩ u).setCell ⟨w.heap.size+1+1,1,none⟩ v) :=
 (h.sc.sb.mb.bel.setCell (p:=⟨w.heap.size+1+1,0,none⟩) (by simp only;omega) u).setCell (p:=⟨w.heap.size+1+1,1,none⟩) (by simp only;omega) v
theorem RowIn.cells2 {wx:World} {v:Value} {l:List Int} {H:Nat} (h:RowIn wx v l) (u0 u1 y0 y1:Value) (h0:wx.cell? ⟨H,0,none⟩=some y0) (h1:wx.cell? ⟨H,1,none⟩=some y1) (k0:∀ x,y0≠.int .i64 x) (k1:∀ x,y1≠.int .i64 x):RowIn ((wx.setCell ⟨H,0,none⟩ u0).setCell ⟨H,1,none⟩ u1) v l:=by
 rcases h with ⟨a,c,rfl,rfl⟩ | ⟨b,off,c,rfl,hc,hb,hcs⟩
 · exact .inl ⟨a,c,rfl,rfl⟩
 · refine .inr ⟨b,off,c,rfl,hc,by simpa using hb,fun j u hj=>?_⟩
   have hx:∃ x,u=.int .i64 x:=by
     simp only [nums,List.getElem?_map,Option.map_eq_some_iff] at hj
     obtain ⟨x,_,rfl⟩:=hj
     exact ⟨x,rfl⟩
   obtain ⟨x,rfl⟩:=hx
   have hcj:=hcs j _ hj
   rw [addr_add] at hcj ⊢
   have n0:(⟨b,off+j,none⟩:Addr)≠⟨H,0,none⟩:=fun e=>by rw [e,h0] at hcj;exact k0 x (Option.some.inj hcj)
   have n1:(⟨b,off+j,none⟩:Addr)≠⟨H,1,none⟩:=fun e=>by rw [e,h1] at hcj;exact k1 x (Option.some.inj hcj)
   rw [World.cell?_setCell_other _ _ _ _ n1.symm,World.cell?_setCell_other _ _ _ _ n0.symm]
   exact hcj
set_option maxRecDepth 100000 in
set_option maxHeartbeats 16000000 in
theorem senter_any {Q:Nat→BP} (m:MdlD) (p:Ph) (la ll:List Int) (a1 a2:Option Addr) (c1 c2:Nat) (v:Int) (w:World) (h:Mod Q w m p) (h0:riM m=(0,0,0)) (h1:RowIn w (.slice a1 la.length c1) la) (h2:RowIn w (.slice a2 ll.length c2) ll) (l1:la.length≤900000) (l2:ll.length≤900000) (hvl:m.vers.length≤1000) (hrl:m.regs.length≤1000) :
   Calls Tryz.prog 38 #[stV m p,.agg #[.slice a1 la.length c1,.slice a2 ll.length c2],.int .i64 v] w (StepR (mayR m la ll v) (enterOk m la v) (la.set (rgA m v).toNat v) ll w):=by
 have HC:=Lib.hid (Er.made (ll:=ll) (a2:=a2) (c2:=c2) h h1)
 have FT:=Lib.hid (fun wx (g:Er m p la ll a1 a2 c1 c2 w wx)=>sfits_any m p la ll a1 a2 c1 c2 wx g.sc.sb.mb.mod h0 g.sc.r1 (h2.below g.sc.sb.mb.bel) (by omega) (by omega) (by omega) (by omega))
 have VX:=Lib.hid (fun wx (g:Er m p la ll a1 a2 c1 c2 w wx)=>svertex_any m p v wx g.sc.sb.mb.mod (by omega))
 have HG:=Lib.hid (fun wx (g:Er m p la ll a1 a2 c1 c2 w wx)=>rhome16_any m p v wx g.sc.sb.mb.mod h0 (by omega))
 have IS:=Lib.hid (fun (F:Fit m la) wx (g:Er m p la ll a1 a2 c1 c2 w wx) (x:Int)=>sis_any m p la ll a1 a2 c1 c2 x wx g.sc.sb.mb.mod h0 g.sc.r1 F.hl (by omega))
 have HF:=Lib.hid (fun hf:fit2 m la ll=true=>fitt_of h0 hf)
 have R1:=Lib.hid (fun wx (g:Er m p la ll a1 a2 c1 c2 w wx)=>g.sc.r1)
 have R2:=Lib.hid (fun wx (g:Er m p la ll a1 a2 c1 c2 w wx)=>h2.below g.sc.sb.mb.bel)
 have CH:=Lib.hid (fun wx (g:Er m p la ll a1 a2 c1 c2 w wx)=>rchain16_any m p v wx g.sc.sb.mb.mod h0 hvl (by omega))
 have HCl:=Lib.hid (chn_le h0 v)
 unfold RowP at CH
 obtain ⟨fb,hfb⟩:∃ fb,fit2 m la ll=fb:=⟨_,rfl⟩
 obtain ⟨sb,hsb⟩:∃ sb,stands m v=sb:=⟨_,rfl⟩
 have HM:Hid (mayR m la ll v=if fb && sb then 0 else 2):=Lib.hid (by unfold mayR;rw [hfb,hsb])
 rw [hfb] at FT HF
 rw [hsb] at VX
 have HSb:=Lib.hid hsb
 have H0:=Lib.hid h0
 generalize mayR m la ll v=ME at *
 unfold ixV mdV at HG CH
 unfold stV at *
 clear h h0 h1 h2 hfb hsb
 go_enter Tryz.func38,Tryz.ntmps38
 go_upto_region 1 with fail
 generalize (((w.alloc (.cells #[.string m.nm,.slice p.a1 m.vars.length p.c1,.slice p.a2 m.evs.length p.c2,.slice p.a3 m.regs.length p.c3,.slice p.a4 m.vers.length p.c4,.slice p.a5 m.trns.length p.c5,.string m.nm,.slice p.a1 m.vars.length p.c1,.slice p.a2 m.evs.length p.c2,.slice p.a3 m.regs.length p.c3,.slice p.a4 m.vers.length p.c4,.slice p.a5 m.trns.length p.c5] 48)).alloc (.cells #[.slice a1 la.length c1,.slice a2 ll.length c2] 62)).alloc (.cells #[.slice none 0 0,.slice none 0 0] 62))=W1 at *
 obtain ⟨x0,x1,x2,x3,x4,x5,_⟩:=HC.out.sc.sb.mb.box;obtain ⟨y0,y1,y2,y3,y4,y5⟩:=HC.out.sc.sb.y;have d0:=HC.out.sc.d0;have d1:=HC.out.sc.d1;have r0:=HC.out.r0;have r1:=HC.out.r1;have q0:=HC.out.q0;have q1:=HC.out.q1
 cases fb
 · have hE:ME=2:=HM.out.trans (if_neg (by simp))
   go_wp2_with fail
   (with_reducible refine (FT.out _ HC.out).mono ?_)
   rintro e w2 ⟨rfl,g2⟩
   have HC2:=Lib.hid (HC.out.below g2)
   clear x0 x1 x2 x3 x4 x5 y0 y1 y2 y3 y4 y5 d0 d1 r0 r1 q0 q1
   obtain ⟨x0,x1,x2,x3,x4,x5,_⟩:=HC2.out.sc.sb.mb.box;obtain ⟨y0,y1,y2,y3,y4,y5⟩:=HC2.out.sc.sb.y;have d0:=HC2.out.sc.d0;have d1:=HC2.out.sc.d1;have r0:=HC2.out.r0;have r1:=HC2.out.r1;have q0:=HC2.out.q0;have q1:=HC2.out.q1
   go_wp2_with fail
   subst hE
   refine bodyPost_ret (v:=.tuple #[.agg #[.slice none 0 0,.slice none 0 0],.int .i64 2]) (by simp [results,Tryz.results38,go_sem,r0,r1]) rfl ⟨HC2.out.low _ _,.inl ⟨by decide,rfl⟩⟩
 go_wp2_with fail
 (with_reducible refine (FT.out _ HC.out).mono ?_)
 rintro e w2 ⟨rfl,g2⟩
 have HC2:=Lib.hid (HC.out.below g2)
 clear x0 x1 x2 x3 x4 x5 y0 y1 y2 y3 y4 y5 d0 d1 r0 r1 q0 q1
 obtain ⟨hF1,hF2⟩:=HF.out (by trivial)
 have HF1:=Lib.hid hF1
 have HF2:=Lib.hid hF2
 have ISf:=Lib.hid (IS.out hF1)
 clear hF1 hF2 HF HC FT g2 IS
 obtain ⟨x0,x1,x2,x3,x4,x5,_⟩:=HC2.out.sc.sb.mb.box;obtain ⟨y0,y1,y2,y3,y4,y5⟩:=HC2.out.sc.sb.y;have d0:=HC2.out.sc.d0;have d1:=HC2.out.sc.d1;have r0:=HC2.out.r0;have r1:=HC2.out.r1;have q0:=HC2.out.q0;have q1:=HC2.out.q1
 cases sb
 · have hE:ME=2:=HM.out.trans (if_neg (by simp))
   go_wp2_with fail
   (with_reducible refine (VX.out _ HC2.out).mono ?_)
   rintro e w3 ⟨rfl,g3⟩
   have HC3:=Lib.hid (HC2.out.below g3)
   clear x0 x1 x2 x3 x4 x5 y0 y1 y2 y3 y4 y5 d0 d1 r0 r1 q0 q1
   obtain ⟨x0,x1,x2,x3,x4,x5,_⟩:=HC3.out.sc.sb.mb.box;obtain ⟨y0,y1,y2,y3,y4,y5⟩:=HC3.out.sc.sb.y;have d0:=HC3.out.sc.d0;have d1:=HC3.out.sc.d1;have r0:=HC3.out.r0;have r1:=HC3.out.r1;have q0:=HC3.out.q0;have q1:=HC3.out.q1
   go_wp2_with fail
   subst hE
   refine bodyPost_ret (v:=.tuple #[.agg #[.slice none 0 0,.slice none 0 0],.int .i64 2]) (by simp [results,Tryz.results38,go_sem,r0,r1]) rfl ⟨HC3.out.low _ _,.inl ⟨by decide,rfl⟩⟩
 have hE:ME=0:=HM.out.trans (if_pos rfl)
 subst hE
 obtain ⟨k,hk,rfl,r,hr,er1,er2,_⟩:=stands_in H0.out HSb.out
 have hrl1:r<la.length:=by rw [HF1.out.hl];exact hr
 have hrl2:r<ll.length:=by rw [HF2.out.hl];exact hr
 have hrL:(r:Int)<(la.length:Int):=by omega
 have hrL2:(r:Int)<(ll.length:Int):=by omega
 have hr0:(0:Int)≤(r:Int):=by omega
 rw [er2] at HG
 have HRg:Hid ((rgA m (k:Int)).toNat=r):=Lib.hid (by rw [er1];rfl)
 have HRi:Hid (rgA m (k:Int)=r):=Lib.hid er1
 clear er1 er2 HM
 go_wp2_with fail
 (with_reducible refine (VX.out _ HC2.out).mono ?_)
 rintro e w3 ⟨rfl,g3⟩
 have HC3:=Lib.hid (HC2.out.below g3)
 clear x0 x1 x2 x3 x4 x5 y0 y1 y2 y3 y4 y5 d0 d1 r0 r1 q0 q1
 clear HC2 VX g3
 obtain ⟨x0,x1,x2,x3,x4,x5,_⟩:=HC3.out.sc.sb.mb.box;obtain ⟨y0,y1,y2,y3,y4,y5⟩:=HC3.out.sc.sb.y;have d0:=HC3.out.sc.d0;have d1:=HC3.out.sc.d1;have r0:=HC3.out.r0;have r1:=HC3.out.r1;have q0:=HC3.out.q0;have q1:=HC3.out.q1
 rw [HRg.out]
 have HEn:Hid (enterOk m la k=(decide (atL la r<0) && (chainM m (k:Int)).all (isA m la))):=Lib.hid (by
   unfold enterOk chainM
   rw [HRi.out,hasV_at hk,if_pos rfl,List.all_reverse])
 generalize enterOk m la (k:Int)=OK at *
 generalize chainM m (k:Int)=C at *
 go_wp2_with fail
 (with_reducible refine (HG.out _ HC3.out).mono ?_)
 rintro e w4 ⟨rfl,g4⟩
 have HC4:=Lib.hid (HC3.out.below g4)
 clear x0 x1 x2 x3 x4 x5 y0 y1 y2 y3 y4 y5 d0 d1 r0 r1 q0 q1
 clear HC3 HG g4
 obtain ⟨a',c',e,hcap,q⟩:=(R1.out w4 HC4.out).len
 obtain ⟨b1,o1,ea,hbl,hcl⟩:=q r hrl1
 simp only [Value.slice.injEq] at e
 obtain ⟨rfl,e',rfl⟩:=e
 clear e'
 subst ea
 rw [← atL_at hrl1] at hcl
 obtain ⟨x0,x1,x2,x3,x4,x5,_⟩:=HC4.out.sc.sb.mb.box;obtain ⟨y0,y1,y2,y3,y4,y5⟩:=HC4.out.sc.sb.y;have d0:=HC4.out.sc.d0;have d1:=HC4.out.sc.d1;have r0:=HC4.out.r0;have r1:=HC4.out.r1;have q0:=HC4.out.q0;have q1:=HC4.out.q1
 clear q
 obtain ⟨y,hy⟩:∃ y,atL la (r:Int)=y:=⟨_,rfl⟩
 rw [hy] at hcl HEn
 clear hy
 by_cases hyp:0≤y
 · have hO:OK=false:=HEn.out.trans (by rw [decide_eq_false (by omega)];rfl)
   go_wp2_with fail
   subst hO
   refine bodyPost_ret (v:=.tuple #[.agg #[.slice none 0 0,.slice none 0 0],.int .i64 4]) (by simp [results,Tryz.results38,go_sem,r0,r1]) rfl ⟨HC4.out.low _ _,.inr (.inl ⟨rfl,rfl,rfl⟩)⟩
 have hyd:decide (0≤y)=false:=decide_eq_false hyp
 have hOK:Hid (OK=C.all (isA m la)):=Lib.hid (HEn.out.trans (by rw [decide_eq_true (by omega)];rfl))
 clear HEn
 go_wp2_with fail
 (with_reducible refine (CH.out _ HC4.out).mono ?_)
 rintro e w5 ⟨v5,rfl,o5,g5⟩
 have HC5:=Lib.hid (HC4.out.below g5)
 have R5:=Lib.hid (RowIn.own o5)
 obtain ⟨a,c,rfl,hcr,_⟩:=R5.out.len
 have HR:=Lib.hid (fun (wx:World) (g:Below w5.heap.size w5 wx)=>(R5.out.below g).len)
 clear x0 x1 x2 x3 x4 x5 y0 y1 y2 y3 y4 y5 d0 d1 r0 r1 q0 q1
 clear HC4 o5 g5 CH R5 hcl hbl hyd
 have hCl:=HCl.out
 obtain ⟨n,hn⟩:∃ n,C.length=n:=⟨_,rfl⟩
 have HNn:=Lib.hid hn
 rw [hn] at hCl hcr ⊢
 clear hn
 go_wp2_with fail
 go_loopw [10] (fun i wr=>∃ k:Nat,k≤n∧i=.int .i64 k∧Below w5.heap.size w5 wr∧∀ j (hj:j<C.length),j<k→isA m la C[j]=true) (fun i _=>n - (intOf i).toNat)
 case atStart=>exact ⟨0,by omega,rfl,Below.refl _ _,fun j _ hj=>by omega⟩
 case round =>
  obtain ⟨wo,rfl⟩:∃ wo:World,wo=wr:=⟨_,rfl⟩
  obtain ⟨i,hi,rfl,hb,hno⟩:=hrel
  have HBo:=Lib.hid hb
  have HCo:=Lib.hid (HC5.out.below hb)
  have HNo:=Lib.hid hno
  clear hb hno
  by_cases hlt:i<n
  · have hil:i<C.length:=by rw [HNn.out];exact hlt
    obtain ⟨a',c',e,_,q⟩:=HR.out wo HBo.out
    obtain ⟨bx,ox,ea,hbl,hcl⟩:=q i hil
    simp only [Value.slice.injEq] at e
    obtain ⟨rfl,e',rfl⟩:=e
    clear e'
    subst ea
    have hI:(i:Int)<(n:Int):=by omega
    have hI0:(0:Int)≤(i:Int):=by omega
    have HS:Hid ((isA m la C[i]=true→∀ j (hj:j<C.length),j<i+1→isA m la C[j]=true)∧(isA m la C[i]=false→C.all (isA m la)=false)):=Lib.hid ⟨fun ht j hj hji=>by
      by_cases e:j=i
      · subst e;exact ht
      · exact HNo.out j hj (by omega),fun hf=>List.all_eq_false.2 ⟨C[i],List.getElem_mem hil,by rw [hf];decide⟩⟩
    obtain ⟨x,hx⟩:∃ x,C[i]=x:=⟨_,rfl⟩
    rw [hx] at hcl HS
    have ISx:=Lib.hid (fun wx (g:Below wo.heap.size wo wx)=>ISf.out wx (HCo.out.below g) x)
    obtain ⟨ia,hia⟩:∃ b,isA m la x=b:=⟨_,rfl⟩
    rw [hia] at ISx HS
    have HSS:Hid (∀ W',Below wo.heap.size wo W'→(W'.cell? ⟨w.heap.size,0,none⟩=some (.string m.nm)∧W'.cell? ⟨w.heap.size,1,none⟩=some (.slice p.a1 m.vars.length p.c1)∧W'.cell? ⟨w.heap.size,2,none⟩=some (.slice p.a2 m.evs.length p.c2)∧W'.cell? ⟨w.heap.size,3,none⟩=some (.slice p.a3 m.regs.length p.c3)∧W'.cell? ⟨w.heap.size,4,none⟩=some (.slice p.a4 m.vers.length p.c4)∧W'.cell? ⟨w.heap.size,5,none⟩=some (.slice p.a5 m.trns.length p.c5))∧(W'.cell? ⟨w.heap.size,6,none⟩=some (.string m.nm)∧W'.cell? ⟨w.heap.size,7,none⟩=some (.slice p.a1 m.vars.length p.c1)∧W'.cell? ⟨w.heap.size,8,none⟩=some (.slice p.a2 m.evs.length p.c2)∧W'.cell? ⟨w.heap.size,9,none⟩=some (.slice p.a3 m.regs.length p.c3)∧W'.cell? ⟨w.heap.size,10,none⟩=some (.slice p.a4 m.vers.length p.c4)∧W'.cell? ⟨w.heap.size,11,none⟩=some (.slice p.a5 m.trns.length p.c5))∧W'.cell? ⟨w.heap.size+1,0,none⟩=some (.slice (some ⟨b1,o1,none⟩) la.length c1)∧W'.cell? ⟨w.heap.size+1,1,none⟩=some (.slice a2 ll.length c2)∧W'.cell? ⟨bx,ox+i,none⟩=some (.int .i64 x)):=Lib.hid fun W' g=>by
      have hh:=HCo.out.below g
      obtain ⟨x0,x1,x2,x3,x4,x5,_⟩:=hh.sc.sb.mb.box
      exact ⟨⟨x0,x1,x2,x3,x4,x5⟩,hh.sc.sb.y,hh.sc.d0,hh.sc.d1,(g.cell (p:=⟨bx,ox+i,none⟩) hbl).trans hcl⟩
    have hB0:Below wo.heap.size wo wo:=Below.refl _ _
    clear q hx hia hcl HR
    go_wp2_with fail
    refine wp_region_any (by kernel_rfl) ?_
    change wpAny _ _ _ _ _ _ _ (World.drew _)
    refine wpAny_of_heldS (S:=(fun W'=>(W'.cell? ⟨w.heap.size,0,none⟩=some (.string m.nm)∧W'.cell? ⟨w.heap.size,1,none⟩=some (.slice p.a1 m.vars.length p.c1)∧W'.cell? ⟨w.heap.size,2,none⟩=some (.slice p.a2 m.evs.length p.c2)∧W'.cell? ⟨w.heap.size,3,none⟩=some (.slice p.a3 m.regs.length p.c3)∧W'.cell? ⟨w.heap.size,4,none⟩=some (.slice p.a4 m.vers.length p.c4)∧W'.cell? ⟨w.heap.size,5,none⟩=some (.slice p.a5 m.trns.length p.c5))∧(W'.cell? ⟨w.heap.size,6,none⟩=some (.string m.nm)∧W'.cell? ⟨w.heap.size,7,none⟩=some (.slice p.a1 m.vars.length p.c1)∧W'.cell? ⟨w.heap.size,8,none⟩=some (.slice p.a2 m.evs.length p.c2)∧W'.cell? ⟨w.heap.size,9,none⟩=some (.slice p.a3 m.regs.length p.c3)∧W'.cell? ⟨w.heap.size,10,none⟩=some (.slice p.a4 m.vers.length p.c4)∧W'.cell? ⟨w.heap.size,11,none⟩=some (.slice p.a5 m.trns.length p.c5))∧W'.cell? ⟨w.heap.size+1,0,none⟩=some (.slice (some ⟨b1,o1,none⟩) la.length c1)∧W'.cell? ⟨w.heap.size+1,1,none⟩=some (.slice a2 ll.length c2)∧W'.cell? ⟨bx,ox+i,none⟩=some (.int .i64 x))) ?_ (fun hHeld=>?_)
    · (try dsimp only) <;> (first | exact HSS.out _ (by assumption) | exact HSS.out _ hB0.drew)
    refine tk 0 rfl ?_
    try simp only [Act.put,lyA,lyZ,lyS]
    refine tk 1 rfl ?_
    try simp only [Act.put,lyA,lyZ,lyS]
    refine tk 2 rfl ?_
    try simp only [Act.put,lyA,lyZ,lyS]
    refine tk 3 rfl ?_
    try simp only [Act.put,lyA,lyZ,lyS]
    refine tk 4 rfl ?_
    try simp only [Act.put,lyA,lyZ,lyS]
    refine tk 5 rfl ?_
    try simp only [Act.put,lyA,lyZ,lyS]
    refine rdy [6] ?_
    refine rdC rfl (fun K hK=>?_) ?_
    (go_simp;(with_reducible refine (ISx.out _ hB0.drew).mono ?_);rintro e w6 ⟨rfl,hb6⟩;have hB6:Below wo.heap.size wo w6:=hB0.drew.trans hb6;go_wp2_with fail)
    refine hK.out _ _ ?_ (fun hH1=>?_)
    · (try dsimp only) <;> (first | exact HSS.out _ (by assumption) | exact HSS.out _ hB0.drew)
    clear hK K hHeld
    try simp only [Act.put,lyA,lyZ,lyS]
    refine tk 7 rfl ?_
    try simp only [Act.put,lyA,lyZ,lyS]
    refine wpAnyH_done (by kernel_rfl) ?_ _
    rotate_left
    exact AllReadyH.nil
    all_goals
      cases ia
      · have hO:OK=false:=hOK.out.trans (HS.out.2 rfl)
        have HC6:=Lib.hid (HCo.out.below hB6)
        obtain ⟨x0,x1,x2,x3,x4,x5,_⟩:=HC6.out.sc.sb.mb.box;obtain ⟨y0,y1,y2,y3,y4,y5⟩:=HC6.out.sc.sb.y;have d0:=HC6.out.sc.d0;have d1:=HC6.out.sc.d1;have r0:=HC6.out.r0;have r1:=HC6.out.r1;have q0:=HC6.out.q0;have q1:=HC6.out.q1
        go_wp2_with fail
        subst hO
        refine bodyPost_ret (v:=.tuple #[.agg #[.slice none 0 0,.slice none 0 0],.int .i64 4]) (by simp [results,Tryz.results38,go_sem,r0,r1]) rfl ⟨HC6.out.low _ _,.inr (.inl ⟨rfl,rfl,rfl⟩)⟩
      · have hN:=Lib.hid (HS.out.1 rfl)
        go_wp2_with fail
        go_roundw
        case rel=>exact ⟨i+1,by omega,by go_num,below_ch HBo.out hB6,hN.out⟩
        case measure=>simp [intOf] <;> omega
  · have hO:OK=true:=hOK.out.trans (List.all_eq_true.2 fun x hx=>by
      obtain ⟨j,hj,rfl⟩:=List.getElem_of_mem hx
      exact HNo.out j hj (by have:=HNn.out;omega))
    subst hO
    clear hOK HNo HR ISf
    obtain ⟨a',c',e,hcap2,q⟩:=(R2.out wo HCo.out).len
    have h0l:0<ll.length:=by omega
    obtain ⟨b2,o2,ea,hbl,hcl⟩:=q 0 h0l
    simp only [Value.slice.injEq] at e
    obtain ⟨rfl,e',rfl⟩:=e
    clear e'
    subst ea
    rw [Nat.add_zero] at hcl
    have h0I:(0:Int)<(ll.length:Int):=by omega
    obtain ⟨z,hz⟩:∃ z,ll[0]'h0l=z:=⟨_,rfl⟩
    have hzs:Hid (ll.set 0 z=ll):=Lib.hid (by rw [← hz];exact List.set_getElem_self h0l)
    rw [hz] at hcl
    have WA:=Lib.hid (fun wx (g:Below wo.heap.size wo wx)=>swith_any la (.slice (some ⟨b1,o1,none⟩) la.length c1) r (k:Int) wx (R1.out wx (HCo.out.below g)) hrl1 l1)
    have WL:=Lib.hid (fun wx (g:Below wo.heap.size wo wx)=>swith_any ll (.slice (some ⟨b2,o2,none⟩) ll.length c2) 0 z wx (R2.out wx (HCo.out.below g)) h0l l2)
    rw [hzs.out,show ((0:Nat):Int)=0 from rfl] at WL
    have HSS:Hid (∀ W',Below wo.heap.size wo W'→W'.cell? ⟨w.heap.size+1,0,none⟩=some (.slice (some ⟨b1,o1,none⟩) la.length c1)∧W'.cell? ⟨w.heap.size+1,1,none⟩=some (.slice (some ⟨b2,o2,none⟩) ll.length c2)∧W'.cell? ⟨b2,o2,none⟩=some (.int .i64 z)∧W'.cell? ⟨w.heap.size+1+1,0,none⟩=some (.slice none 0 0)∧W'.cell? ⟨w.heap.size+1+1,1,none⟩=some (.slice none 0 0)∧W'.frozen? ⟨w.heap.size+1+1,0,none⟩=false∧W'.frozen? ⟨w.heap.size+1+1,1,none⟩=false):=Lib.hid fun W' g=>by
      have hh:=HCo.out.below g
      exact ⟨hh.sc.d0,hh.sc.d1,(g.cell (p:=⟨b2,o2,none⟩) hbl).trans hcl,hh.r0,hh.r1,hh.q0,hh.q1⟩
    have hB0:Below wo.heap.size wo wo:=Below.refl _ _
    unfold RowP at WA WL
    obtain ⟨LA,hLA⟩:∃ L,la.set r (k:Int)=L:=⟨_,rfl⟩
    rw [hLA] at WA
    have HLA:Hid (la.set (rgA m (k:Int)).toNat (k:Int)=LA):=Lib.hid (by rw [HRg.out];exact hLA)
    clear hLA
    clear q hz hcl
    go_wp2_with fail
    refine wp_region_any (by kernel_rfl) ?_
    change wpAny _ _ _ _ _ _ _ (World.drew _)
    refine wpAny_sink (n:=14) (o:=⟨some 7,.assign (.const (.int .i64 0)),56, "ref.go:135", #[⟨13,.chain⟩,⟨0,.phase⟩,⟨1,.phase⟩,⟨2,.phase⟩,⟨3,.phase⟩,⟨4,.phase⟩,⟨5,.phase⟩,⟨6,.phase⟩,⟨7,.phase⟩,⟨8,.phase⟩,⟨9,.phase⟩,⟨10,.phase⟩,⟨11,.phase⟩,⟨12,.phase⟩,⟨13,.phase⟩],none⟩) (ops':=_) (by decide) (by kernel_rfl) (by rfl) (by rfl) ?_
    refine wpAny_sink (n:=13) (o:=⟨none,.store 62 (.tmp 6) (.tmp 64),0, "ref.go:135", #[⟨12,.data⟩,⟨11,.chain⟩,⟨0,.phase⟩,⟨1,.phase⟩,⟨2,.phase⟩,⟨3,.phase⟩,⟨4,.phase⟩,⟨5,.phase⟩,⟨6,.phase⟩,⟨7,.phase⟩,⟨8,.phase⟩,⟨9,.phase⟩,⟨10,.phase⟩,⟨11,.phase⟩,⟨12,.phase⟩],none⟩) (ops':=#[⟨some 52,.fieldAddr 62 (.tmp 4) 0,0, "ref.go:135", #[],none⟩,⟨some 53,.load 29 (.tmp 52),29, "ref.go:135", #[⟨0,.data⟩],none⟩,⟨some 54,.move (.tmp 8),3, "ref.go:135", #[],none⟩,⟨some 55,.move (.tmp 2),3, "ref.go:135", #[],none⟩,⟨some 56,.call { callee:=.value (.func 85),args:=#[.tmp 53,.tmp 54,.tmp 55],argTypes:=#[29,3,3] },29, "ref.go:135", #[⟨1,.data⟩,⟨2,.data⟩,⟨3,.data⟩],none⟩,⟨some 57,.fieldAddr 62 (.tmp 4) 1,0, "ref.go:135", #[],none⟩,⟨some 58,.load 29 (.tmp 57),29, "ref.go:135", #[⟨5,.data⟩],none⟩,⟨some 59,.fieldAddr 62 (.tmp 4) 1,0, "ref.go:135", #[],none⟩,⟨some 60,.load 29 (.tmp 59),29, "ref.go:135", #[⟨7,.data⟩],none⟩,⟨some 61,.indexAddr 29 (.tmp 60) (.const (.int .i64 0)),0, "ref.go:135", #[⟨8,.data⟩],none⟩,⟨some 62,.load 3 (.tmp 61),3, "ref.go:135", #[⟨9,.data⟩],none⟩,⟨some 63,.call { callee:=.value (.func 85),args:=#[.tmp 58,.const (.int .i64 0),.tmp 62],argTypes:=#[29,3,3] },29, "ref.go:135", #[⟨6,.data⟩,⟨10,.data⟩,⟨4,.chain⟩],none⟩,⟨some 64,.build 62 #[(0,.tmp 56),(1,.tmp 63)],62, "ref.go:135", #[⟨4,.data⟩,⟨11,.data⟩],none⟩]) (by decide) (by kernel_rfl) (by rfl) (by rfl) ?_
    refine wpAny_of_heldS (S:=(fun W'=>W'.cell? ⟨w.heap.size+1,0,none⟩=some (.slice (some ⟨b1,o1,none⟩) la.length c1)∧W'.cell? ⟨w.heap.size+1,1,none⟩=some (.slice (some ⟨b2,o2,none⟩) ll.length c2)∧W'.cell? ⟨b2,o2,none⟩=some (.int .i64 z)∧W'.cell? ⟨w.heap.size+1+1,0,none⟩=some (.slice none 0 0)∧W'.cell? ⟨w.heap.size+1+1,1,none⟩=some (.slice none 0 0)∧W'.frozen? ⟨w.heap.size+1+1,0,none⟩=false∧W'.frozen? ⟨w.heap.size+1+1,1,none⟩=false)) ?_ (fun hHeld=>?_)
    · (try dsimp only) <;> (first | exact HSS.out _ (by assumption) | exact HSS.out _ hB0.drew)
    refine tk 0 rfl ?_
    try simp only [Act.put,lyA,lyZ,lyS]
    refine tk 1 rfl ?_
    try simp only [Act.put,lyA,lyZ,lyS]
    refine tk 2 rfl ?_
    try simp only [Act.put,lyA,lyZ,lyS]
    refine tk 3 rfl ?_
    try simp only [Act.put,lyA,lyZ,lyS]
    refine tk 5 rfl ?_
    try simp only [Act.put,lyA,lyZ,lyS]
    refine tk 6 rfl ?_
    try simp only [Act.put,lyA,lyZ,lyS]
    refine tk 7 rfl ?_
    try simp only [Act.put,lyA,lyZ,lyS]
    refine tk 8 rfl ?_
    try simp only [Act.put,lyA,lyZ,lyS]
    refine tk 9 rfl ?_
    try simp only [Act.put,lyA,lyZ,lyS]
    refine tk 10 rfl ?_
    try simp only [Act.put,lyA,lyZ,lyS]
    refine rdy [4] ?_
    refine rdC rfl (fun K hK=>?_) ?_
    (go_simp;(with_reducible refine (WA.out _ (by first | assumption | exact hB0.drew)).mono ?_);rintro e wa ⟨va,rfl,oa,hba⟩;have hBe:=below_ch (by first | assumption | exact hB0.drew) hba;(first | (have RRl':=Lib.hid (RRl.out.below hba);clear RRl;have RRl:=RRl';clear RRl') | (have RRa':=Lib.hid (RRa.out.below hba);clear RRa;have RRa:=RRa';clear RRa') | skip);have RRa:=Lib.hid (RowIn.own oa);obtain ⟨xa,ca,eva⟩:=ownsRow_slice oa;subst eva;clear oa hba;obtain ⟨_,_,_,s3,s4,s5,s6⟩:=HSS.out _ hBe;go_wp2_with fail)
    refine hK.out _ _ ?_ (fun hH1=>?_)
    · (try dsimp only) <;> (first | exact HSS.out _ (by assumption) | exact HSS.out _ hB0.drew)
    clear hK K hHeld
    try simp only [Act.put,lyA,lyZ,lyS]
    refine rdy [11] ?_
    refine rdC rfl (fun K hK=>?_) ?_
    (go_simp;(with_reducible refine (WL.out _ (by first | assumption | exact hB0.drew)).mono ?_);rintro e wl ⟨vl,rfl,ol,hbl⟩;have hBe:=below_ch (by first | assumption | exact hB0.drew) hbl;(first | (have RRl':=Lib.hid (RRl.out.below hbl);clear RRl;have RRl:=RRl';clear RRl') | (have RRa':=Lib.hid (RRa.out.below hbl);clear RRa;have RRa:=RRa';clear RRa') | skip);have RRl:=Lib.hid (RowIn.own ol);obtain ⟨xl,cl,evl⟩:=ownsRow_slice ol;subst evl;clear ol hbl;obtain ⟨_,_,_,s3,s4,s5,s6⟩:=HSS.out _ hBe;go_wp2_with fail)
    refine hK.out _ _ ?_ (fun hH2=>?_)
    · (try dsimp only) <;> (first | exact HSS.out _ (by assumption) | exact HSS.out _ hB0.drew)
    clear hK K hH1
    try simp only [Act.put,lyA,lyZ,lyS]
    refine tk 12 rfl ?_
    try simp only [Act.put,lyA,lyZ,lyS]
    refine wpAnyH_done (by kernel_rfl) ?_ _
    rotate_left
    exact AllReadyH.nil
    exact AllReadyH.nil
    all_goals
      refine sinkQ_of fun K hK=>?_
      go_simp
      refine hK _ _ ?_
      clear hK K
      refine sinkQ_of fun K hK=>?_
      go_simp
      refine hK _ _ ?_
      clear hK K
      go_wp2_with fail
      have HCe:=Lib.hid (HCo.out.below hBe)
      refine bodyPost_ret (v:=.tuple #[.agg #[.slice xa LA.length ca,.slice xl ll.length cl],.int .i64 0]) (by simp [results,Tryz.results38,go_sem,s3,s4]) rfl ⟨HCe.out.low _ _,.inr (.inr ⟨rfl,rfl,xa,ca,xl,cl,by rw [HLA.out],?_,?_⟩)⟩
      · rw [HLA.out];exact RRa.out.cells2 _ _ _ _ s3 s4 (fun x e=>by cases e) (fun x e=>by cases e)
      · exact RRl.out.cells2 _ _ _ _ s3 s4 (fun x e=>by cases e) (fun x e=>by cases e)
set_option maxRecDepth 100000 in
set_option maxHeartbeats 16000000 in
theorem sleave_any {Q:Nat→BP} (m:MdlD) (p:Ph) (la ll:List Int) (a1 a2:Option Addr) (c1 c2:Nat) (v:Int) (w:World) (h:Mod Q w m p) (h0:riM m=(0,0,0)) (h1:RowIn w (.slice a1 la.length c1) la) (h2:RowIn w (.slice a2 ll.length c2) ll) (l1:la.length≤900000) (l2:ll.length≤900000) (hvl:m.vers.length≤1000) (hrl:m.regs.length≤1000) :
   Calls Tryz.prog 39 #[stV m p,.agg #[.slice a1 la.length c1,.slice a2 ll.length c2],.int .i64 v] w (StepR (mayR m la ll v) (leaveOk m la v) (la.set (rgA m v).toNat (-1)) (ll.set (rgA m v).toNat v) w):=by
 have HC:=Lib.hid (Er.made (ll:=ll) (a2:=a2) (c2:=c2) h h1)
 have FT:=Lib.hid (fun wx (g:Er m p la ll a1 a2 c1 c2 w wx)=>sfits_any m p la ll a1 a2 c1 c2 wx g.sc.sb.mb.mod h0 g.sc.r1 (h2.below g.sc.sb.mb.bel) (by omega) (by omega) (by omega) (by omega))
 have VX:=Lib.hid (fun wx (g:Er m p la ll a1 a2 c1 c2 w wx)=>svertex_any m p v wx g.sc.sb.mb.mod (by omega))
 have HG:=Lib.hid (fun wx (g:Er m p la ll a1 a2 c1 c2 w wx)=>rhome16_any m p v wx g.sc.sb.mb.mod h0 (by omega))
 have IS:=Lib.hid (fun (F:Fit m la) wx (g:Er m p la ll a1 a2 c1 c2 w wx) (x:Int)=>sis_any m p la ll a1 a2 c1 c2 x wx g.sc.sb.mb.mod h0 g.sc.r1 F.hl (by omega))
 have HF:=Lib.hid (fun hf:fit2 m la ll=true=>fitt_of h0 hf)
 have R1:=Lib.hid (fun wx (g:Er m p la ll a1 a2 c1 c2 w wx)=>g.sc.r1)
 have R2:=Lib.hid (fun wx (g:Er m p la ll a1 a2 c1 c2 w wx)=>h2.below g.sc.sb.mb.bel)
 have RG:=Lib.hid (fun wx (g:Er m p la ll a1 a2 c1 c2 w wx)=>rregions16_any m p v wx g.sc.sb.mb.mod (by omega))
 unfold RowP at RG
 obtain ⟨fb,hfb⟩:∃ fb,fit2 m la ll=fb:=⟨_,rfl⟩
 obtain ⟨sb,hsb⟩:∃ sb,stands m v=sb:=⟨_,rfl⟩
 have HM:Hid (mayR m la ll v=if fb && sb then 0 else 2):=Lib.hid (by unfold mayR;rw [hfb,hsb])
 rw [hfb] at FT HF
 rw [hsb] at VX
 have HSb:=Lib.hid hsb
 have H0:=Lib.hid h0
 generalize mayR m la ll v=ME at *
 unfold ixV mdV at HG RG
 unfold stV at *
 clear h h0 h1 h2 hfb hsb
 go_enter Tryz.func39,Tryz.ntmps39
 go_upto_region 1 with fail
 generalize (((w.alloc (.cells #[.string m.nm,.slice p.a1 m.vars.length p.c1,.slice p.a2 m.evs.length p.c2,.slice p.a3 m.regs.length p.c3,.slice p.a4 m.vers.length p.c4,.slice p.a5 m.trns.length p.c5,.string m.nm,.slice p.a1 m.vars.length p.c1,.slice p.a2 m.evs.length p.c2,.slice p.a3 m.regs.length p.c3,.slice p.a4 m.vers.length p.c4,.slice p.a5 m.trns.length p.c5] 48)).alloc (.cells #[.slice a1 la.length c1,.slice a2 ll.length c2] 62)).alloc (.cells #[.slice none 0 0,.slice none 0 0] 62))=W1 at *
 obtain ⟨x0,x1,x2,x3,x4,x5,_⟩:=HC.out.sc.sb.mb.box;obtain ⟨y0,y1,y2,y3,y4,y5⟩:=HC.out.sc.sb.y;have d0:=HC.out.sc.d0;have d1:=HC.out.sc.d1;have r0:=HC.out.r0;have r1:=HC.out.r1;have q0:=HC.out.q0;have q1:=HC.out.q1
 cases fb
 · have hE:ME=2:=HM.out.trans (if_neg (by simp))
   go_wp2_with fail
   (with_reducible refine (FT.out _ HC.out).mono ?_)
   rintro e w2 ⟨rfl,g2⟩
   have HC2:=Lib.hid (HC.out.below g2)
   clear x0 x1 x2 x3 x4 x5 y0 y1 y2 y3 y4 y5 d0 d1 r0 r1 q0 q1
   obtain ⟨x0,x1,x2,x3,x4,x5,_⟩:=HC2.out.sc.sb.mb.box;obtain ⟨y0,y1,y2,y3,y4,y5⟩:=HC2.out.sc.sb.y;have d0:=HC2.out.sc.d0;have d1:=HC2.out.sc.d1;have r0:=HC2.out.r0;have r1:=HC2.out.r1;have q0:=HC2.out.q0;have q1:=HC2.out.q1
   go_wp2_with fail
   subst hE
   refine bodyPost_ret (v:=.tuple #[.agg #[.slice none 0 0,.slice none 0 0],.int .i64 2]) (by simp [results,Tryz.results39,go_sem,r0,r1]) rfl ⟨HC2.out.low _ _,.inl ⟨by decide,rfl⟩⟩
 go_wp2_with fail
 (with_reducible refine (FT.out _ HC.out).mono ?_)
 rintro e w2 ⟨rfl,g2⟩
 have HC2:=Lib.hid (HC.out.below g2)
 clear x0 x1 x2 x3 x4 x5 y0 y1 y2 y3 y4 y5 d0 d1 r0 r1 q0 q1
 obtain ⟨hF1,hF2⟩:=HF.out (by trivial)
 have HF1:=Lib.hid hF1
 have HF2:=Lib.hid hF2
 have ISf:=Lib.hid (IS.out hF1)
 clear hF1 hF2 HF HC FT g2 IS
 obtain ⟨x0,x1,x2,x3,x4,x5,_⟩:=HC2.out.sc.sb.mb.box;obtain ⟨y0,y1,y2,y3,y4,y5⟩:=HC2.out.sc.sb.y;have d0:=HC2.out.sc.d0;have d1:=HC2.out.sc.d1;have r0:=HC2.out.r0;have r1:=HC2.out.r1;have q0:=HC2.out.q0;have q1:=HC2.out.q1
 cases sb
 · have hE:ME=2:=HM.out.trans (if_neg (by simp))
   go_wp2_with fail
   (with_reducible refine (VX.out _ HC2.out).mono ?_)
   rintro e w3 ⟨rfl,g3⟩
   have HC3:=Lib.hid (HC2.out.below g3)
   clear x0 x1 x2 x3 x4 x5 y0 y1 y2 y3 y4 y5 d0 d1 r0 r1 q0 q1
   obtain ⟨x0,x1,x2,x3,x4,x5,_⟩:=HC3.out.sc.sb.mb.box;obtain ⟨y0,y1,y2,y3,y4,y5⟩:=HC3.out.sc.sb.y;have d0:=HC3.out.sc.d0;have d1:=HC3.out.sc.d1;have r0:=HC3.out.r0;have r1:=HC3.out.r1;have q0:=HC3.out.q0;have q1:=HC3.out.q1
   go_wp2_with fail
   subst hE
   refine bodyPost_ret (v:=.tuple #[.agg #[.slice none 0 0,.slice none 0 0],.int .i64 2]) (by simp [results,Tryz.results39,go_sem,r0,r1]) rfl ⟨HC3.out.low _ _,.inl ⟨by decide,rfl⟩⟩
 have hE:ME=0:=HM.out.trans (if_pos rfl)
 subst hE
 obtain ⟨k,hk,rfl,r,hr,er1,er2,_⟩:=stands_in H0.out HSb.out
 have hrl1:r<la.length:=by rw [HF1.out.hl];exact hr
 have hrl2:r<ll.length:=by rw [HF2.out.hl];exact hr
 have hrL:(r:Int)<(la.length:Int):=by omega
 have hrL2:(r:Int)<(ll.length:Int):=by omega
 have hr0:(0:Int)≤(r:Int):=by omega
 rw [er2] at HG
 have HRg:Hid ((rgA m (k:Int)).toNat=r):=Lib.hid (by rw [er1];rfl)
 have HRi:Hid (rgA m (k:Int)=r):=Lib.hid er1
 clear er1 er2 HM
 go_wp2_with fail
 (with_reducible refine (VX.out _ HC2.out).mono ?_)
 rintro e w3 ⟨rfl,g3⟩
 have HC3:=Lib.hid (HC2.out.below g3)
 clear x0 x1 x2 x3 x4 x5 y0 y1 y2 y3 y4 y5 d0 d1 r0 r1 q0 q1
 clear HC2 VX g3
 obtain ⟨x0,x1,x2,x3,x4,x5,_⟩:=HC3.out.sc.sb.mb.box;obtain ⟨y0,y1,y2,y3,y4,y5⟩:=HC3.out.sc.sb.y;have d0:=HC3.out.sc.d0;have d1:=HC3.out.sc.d1;have r0:=HC3.out.r0;have r1:=HC3.out.r1;have q0:=HC3.out.q0;have q1:=HC3.out.q1
 rw [HRg.out]
 have hLn:(ownM m (k:Int)).length≤1000:=by have:=sel_len (isOwn (k:Int)) m.regs;have e:(ownM m (k:Int)).length≤m.regs.length:=this;omega
 have HLv:Hid (leaveOk m la k=(!((ownM m (k:Int)).any fun q=>decide (0≤atL la q)) && isA m la k)):=Lib.hid rfl
 have HFr:Hid (∀ (q:Int),q ∈ ownM m (k:Int)→∃ j:Nat,q=j∧j<la.length):=Lib.hid (fun q hq=>by
   obtain ⟨j,hj,rfl,_⟩:=own_at hq
   exact ⟨j,rfl,by rw [HF1.out.hl];exact hj⟩)
 generalize leaveOk m la (k:Int)=OK at *
 generalize ownM m (k:Int)=R at *
 go_wp2_with fail
 (with_reducible refine (RG.out _ HC3.out).mono ?_)
 rintro e w5 ⟨v5,rfl,o5,g5⟩
 have HC5:=Lib.hid (HC3.out.below g5)
 have R5:=Lib.hid (RowIn.own o5)
 obtain ⟨a,c,rfl,hcr,_⟩:=R5.out.len
 have HR:=Lib.hid (fun (wx:World) (g:Below w5.heap.size w5 wx)=>(R5.out.below g).len)
 clear x0 x1 x2 x3 x4 x5 y0 y1 y2 y3 y4 y5 d0 d1 r0 r1 q0 q1
 clear HC3 o5 g5 RG R5
 obtain ⟨n,hn⟩:∃ n,R.length=n:=⟨_,rfl⟩
 have HNn:=Lib.hid hn
 rw [hn] at hLn hcr ⊢
 clear hn
 go_wp2_with fail
 go_loopw [9] (fun i wr=>∃ k:Nat,k≤n∧i=.int .i64 k∧Below w5.heap.size w5 wr∧∀ j (hj:j<R.length),j<k→decide (0≤atL la R[j])=false) (fun i _=>n - (intOf i).toNat)
 case atStart=>exact ⟨0,by omega,rfl,Below.refl _ _,fun j _ hj=>by omega⟩
 case round =>
  obtain ⟨wo,rfl⟩:∃ wo:World,wo=wr:=⟨_,rfl⟩
  obtain ⟨i,hi,rfl,hb,hno⟩:=hrel
  have HBo:=Lib.hid hb
  have HCo:=Lib.hid (HC5.out.below hb)
  have HNo:=Lib.hid hno
  clear hb hno
  by_cases hlt:i<n
  · have hil:i<R.length:=by rw [HNn.out];exact hlt
    obtain ⟨a',c',e,_,q⟩:=HR.out wo HBo.out
    obtain ⟨bx,ox,ea,hbl,hcl⟩:=q i hil
    simp only [Value.slice.injEq] at e
    obtain ⟨rfl,e',rfl⟩:=e
    clear e'
    subst ea
    have hI:(i:Int)<(n:Int):=by omega
    have hI0:(0:Int)≤(i:Int):=by omega
    obtain ⟨j,ej,hj⟩:=HFr.out _ (List.getElem_mem hil)
    have HS:Hid ((¬ (0≤atL la (j:Int))→∀ j' (hj:j'<R.length),j'<i+1→decide (0≤atL la R[j'])=false)∧(0≤atL la (j:Int)→(R.any fun q=>decide (0≤atL la q))=true)):=Lib.hid ⟨fun ht j' hj' hji=>by
      by_cases e:j'=i
      · subst e;rw [ej];exact decide_eq_false ht
      · exact HNo.out j' hj' (by omega),fun hf=>List.any_eq_true.2 ⟨R[i],List.getElem_mem hil,by rw [ej];exact decide_eq_true hf⟩⟩
    rw [ej] at hcl
    obtain ⟨a'',c'',e,hcl1,q2⟩:=(R1.out wo HCo.out).len
    obtain ⟨b1,o1,ea,hbl1,hcl2⟩:=q2 j hj
    simp only [Value.slice.injEq] at e
    obtain ⟨rfl,e',rfl⟩:=e
    clear e'
    subst ea
    rw [← atL_at hj] at hcl2
    have hjI:(j:Int)<(la.length:Int):=by omega
    have hj0:(0:Int)≤(j:Int):=by omega
    have d0:=HCo.out.sc.d0
    have hB0:Below wo.heap.size wo wo:=Below.refl _ _
    generalize atL la (j:Int)=z at *
    clear q q2 ej HR
    by_cases hz:0≤z
    · have hO:OK=false:=HLv.out.trans (by rw [HS.out.2 hz];rfl)
      have HC6:=Lib.hid (HCo.out.below (below_drewN hB0 0))
      have r0:=HCo.out.r0
      have r1:=HCo.out.r1
      have q0:=HCo.out.q0
      have q1:=HCo.out.q1
      clear HS
      go_wp2_with fail
      go_quiet (fail)
      go_wp2_with fail
      subst hO
      refine bodyPost_ret (v:=.tuple #[.agg #[.slice none 0 0,.slice none 0 0],.int .i64 4]) (by simp [results,Tryz.results39,go_sem,r0,r1]) rfl ⟨(HCo.out.below (below_drewN hB0 _)).low _ _,.inr (.inl ⟨rfl,rfl,rfl⟩)⟩
    · have hzd:decide (0≤z)=false:=decide_eq_false hz
      have hN:=Lib.hid (HS.out.1 hz)
      clear HS
      go_wp2_with fail
      go_quiet (fail)
      go_wp2_with fail
      go_roundw
      case rel=>exact ⟨i+1,by omega,by go_num,below_drewN HBo.out _,hN.out⟩
      case measure=>simp [intOf] <;> omega
  · have hOK:Hid (OK=isA m la k):=Lib.hid (HLv.out.trans (by
      rw [show (R.any fun q=>decide (0≤atL la q))=false from List.any_eq_false.2 fun x hx=>by
        obtain ⟨j,hj,rfl⟩:=List.getElem_of_mem hx
        rw [HNo.out j hj (by have:=HNn.out;omega)];decide]
      rfl))
    have ISk:=Lib.hid (ISf.out wo HCo.out (k:Int))
    obtain ⟨ia,hia⟩:∃ b,isA m la (k:Int)=b:=⟨_,rfl⟩
    rw [hia] at ISk hOK
    clear hia HLv HNo HR ISf HFr
    obtain ⟨x0,x1,x2,x3,x4,x5,_⟩:=HCo.out.sc.sb.mb.box;obtain ⟨y0,y1,y2,y3,y4,y5⟩:=HCo.out.sc.sb.y;have d0:=HCo.out.sc.d0;have d1:=HCo.out.sc.d1;have r0:=HCo.out.r0;have r1:=HCo.out.r1;have q0:=HCo.out.q0;have q1:=HCo.out.q1
    go_wp2_with fail
    (with_reducible refine (ISk.out).mono ?_)
    rintro e w6 ⟨rfl,g6⟩
    have HC6:=Lib.hid (HCo.out.below g6)
    clear x0 x1 x2 x3 x4 x5 y0 y1 y2 y3 y4 y5 d0 d1 r0 r1 q0 q1
    clear HCo ISk g6
    obtain ⟨x0,x1,x2,x3,x4,x5,_⟩:=HC6.out.sc.sb.mb.box;obtain ⟨y0,y1,y2,y3,y4,y5⟩:=HC6.out.sc.sb.y;have d0:=HC6.out.sc.d0;have d1:=HC6.out.sc.d1;have r0:=HC6.out.r0;have r1:=HC6.out.r1;have q0:=HC6.out.q0;have q1:=HC6.out.q1
    cases ia
    · have hO:OK=false:=hOK.out
      go_wp2_with fail
      subst hO
      refine bodyPost_ret (v:=.tuple #[.agg #[.slice none 0 0,.slice none 0 0],.int .i64 4]) (by simp [results,Tryz.results39,go_sem,r0,r1]) rfl ⟨HC6.out.low _ _,.inr (.inl ⟨rfl,rfl,rfl⟩)⟩
    have hO:OK=true:=hOK.out
    subst hO
    clear hOK
    go_wp2_with fail
    (with_reducible refine (HG.out _ HC6.out).mono ?_)
    rintro e w7 ⟨rfl,g7⟩
    have HC7:=Lib.hid (HC6.out.below g7)
    clear x0 x1 x2 x3 x4 x5 y0 y1 y2 y3 y4 y5 d0 d1 r0 r1 q0 q1
    clear HC6 HG g7
    have WA:=Lib.hid (fun wx (g:Below w7.heap.size w7 wx)=>swith_any la (.slice a1 la.length c1) r (-1) wx (R1.out wx (HC7.out.below g)) hrl1 l1)
    have WL:=Lib.hid (fun wx (g:Below w7.heap.size w7 wx)=>swith_any ll (.slice a2 ll.length c2) r (k:Int) wx (R2.out wx (HC7.out.below g)) hrl2 l2)
    have HSS:Hid (∀ W',Below w7.heap.size w7 W'→W'.cell? ⟨w.heap.size+1,0,none⟩=some (.slice a1 la.length c1)∧W'.cell? ⟨w.heap.size+1,1,none⟩=some (.slice a2 ll.length c2)∧W'.cell? ⟨w.heap.size+1+1,0,none⟩=some (.slice none 0 0)∧W'.cell? ⟨w.heap.size+1+1,1,none⟩=some (.slice none 0 0)∧W'.frozen? ⟨w.heap.size+1+1,0,none⟩=false∧W'.frozen? ⟨w.heap.size+1+1,1,none⟩=false):=Lib.hid fun W' g=>by
      have hh:=HC7.out.below g
      exact ⟨hh.sc.d0,hh.sc.d1,hh.r0,hh.r1,hh.q0,hh.q1⟩
    have hB0:Below w7.heap.size w7 w7:=Below.refl _ _
    unfold RowP at WA WL
    obtain ⟨LA,hLA⟩:∃ L,la.set r (-1)=L:=⟨_,rfl⟩
    obtain ⟨LL,hLL⟩:∃ L,ll.set r (k:Int)=L:=⟨_,rfl⟩
    rw [hLA] at WA
    rw [hLL] at WL
    have HLA:Hid (la.set (rgA m (k:Int)).toNat (-1)=LA):=Lib.hid (by rw [HRg.out];exact hLA)
    have HLL:Hid (ll.set (rgA m (k:Int)).toNat (k:Int)=LL):=Lib.hid (by rw [HRg.out];exact hLL)
    clear hLA hLL
    go_wp2_with fail
    refine wp_region_any (by kernel_rfl) ?_
    change wpAny _ _ _ _ _ _ _ (World.drew _)
    refine wpAny_sink (n:=11) (o:=⟨some 7,.assign (.const (.int .i64 0)),56, "ref.go:153", #[⟨10,.chain⟩,⟨0,.phase⟩,⟨1,.phase⟩,⟨2,.phase⟩,⟨3,.phase⟩,⟨4,.phase⟩,⟨5,.phase⟩,⟨6,.phase⟩,⟨7,.phase⟩,⟨8,.phase⟩,⟨9,.phase⟩,⟨10,.phase⟩],none⟩) (ops':=_) (by decide) (by kernel_rfl) (by rfl) (by rfl) ?_
    refine wpAny_sink (n:=10) (o:=⟨none,.store 62 (.tmp 6) (.tmp 61),0, "ref.go:153", #[⟨9,.data⟩,⟨8,.chain⟩,⟨0,.phase⟩,⟨1,.phase⟩,⟨2,.phase⟩,⟨3,.phase⟩,⟨4,.phase⟩,⟨5,.phase⟩,⟨6,.phase⟩,⟨7,.phase⟩,⟨8,.phase⟩,⟨9,.phase⟩],none⟩) (ops':=#[⟨some 52,.fieldAddr 62 (.tmp 4) 0,0, "ref.go:153", #[],none⟩,⟨some 53,.load 29 (.tmp 52),29, "ref.go:153", #[⟨0,.data⟩],none⟩,⟨some 54,.move (.tmp 10),3, "ref.go:153", #[],none⟩,⟨some 55,.call { callee:=.value (.func 85),args:=#[.tmp 53,.tmp 54,.const (.int .i64 (-1))],argTypes:=#[29,3,3] },29, "ref.go:153", #[⟨1,.data⟩,⟨2,.data⟩],none⟩,⟨some 56,.fieldAddr 62 (.tmp 4) 1,0, "ref.go:153", #[],none⟩,⟨some 57,.load 29 (.tmp 56),29, "ref.go:153", #[⟨4,.data⟩],none⟩,⟨some 58,.move (.tmp 10),3, "ref.go:153", #[],none⟩,⟨some 59,.move (.tmp 2),3, "ref.go:153", #[],none⟩,⟨some 60,.call { callee:=.value (.func 85),args:=#[.tmp 57,.tmp 58,.tmp 59],argTypes:=#[29,3,3] },29, "ref.go:153", #[⟨5,.data⟩,⟨6,.data⟩,⟨7,.data⟩,⟨3,.chain⟩],none⟩,⟨some 61,.build 62 #[(0,.tmp 55),(1,.tmp 60)],62, "ref.go:153", #[⟨3,.data⟩,⟨8,.data⟩],none⟩]) (by decide) (by kernel_rfl) (by rfl) (by rfl) ?_
    refine wpAny_of_heldS (S:=(fun W'=>W'.cell? ⟨w.heap.size+1,0,none⟩=some (.slice a1 la.length c1)∧W'.cell? ⟨w.heap.size+1,1,none⟩=some (.slice a2 ll.length c2)∧W'.cell? ⟨w.heap.size+1+1,0,none⟩=some (.slice none 0 0)∧W'.cell? ⟨w.heap.size+1+1,1,none⟩=some (.slice none 0 0)∧W'.frozen? ⟨w.heap.size+1+1,0,none⟩=false∧W'.frozen? ⟨w.heap.size+1+1,1,none⟩=false)) ?_ (fun hHeld=>?_)
    · (try dsimp only) <;> (first | exact HSS.out _ (by assumption) | exact HSS.out _ hB0.drew)
    refine tk 0 rfl ?_
    try simp only [Act.put,lyA,lyZ,lyS]
    refine tk 1 rfl ?_
    try simp only [Act.put,lyA,lyZ,lyS]
    refine tk 2 rfl ?_
    try simp only [Act.put,lyA,lyZ,lyS]
    refine tk 4 rfl ?_
    try simp only [Act.put,lyA,lyZ,lyS]
    refine tk 5 rfl ?_
    try simp only [Act.put,lyA,lyZ,lyS]
    refine tk 6 rfl ?_
    try simp only [Act.put,lyA,lyZ,lyS]
    refine tk 7 rfl ?_
    try simp only [Act.put,lyA,lyZ,lyS]
    refine rdy [3] ?_
    refine rdC rfl (fun K hK=>?_) ?_
    (go_simp;(with_reducible refine (WA.out _ (by first | assumption | exact hB0.drew)).mono ?_);rintro e wa ⟨va,rfl,oa,hba⟩;have hBe:=below_ch (by first | assumption | exact hB0.drew) hba;(first | (have RRl':=Lib.hid (RRl.out.below hba);clear RRl;have RRl:=RRl';clear RRl') | (have RRa':=Lib.hid (RRa.out.below hba);clear RRa;have RRa:=RRa';clear RRa') | skip);have RRa:=Lib.hid (RowIn.own oa);obtain ⟨xa,ca,eva⟩:=ownsRow_slice oa;subst eva;clear oa hba;obtain ⟨_,_,s3,s4,s5,s6⟩:=HSS.out _ hBe;go_wp2_with fail)
    refine hK.out _ _ ?_ (fun hH1=>?_)
    · (try dsimp only) <;> (first | exact HSS.out _ (by assumption) | exact HSS.out _ hB0.drew)
    clear hK K hHeld
    try simp only [Act.put,lyA,lyZ,lyS]
    refine rdy [8] ?_
    refine rdC rfl (fun K hK=>?_) ?_
    (go_simp;(with_reducible refine (WL.out _ (by first | assumption | exact hB0.drew)).mono ?_);rintro e wl ⟨vl,rfl,ol,hbl⟩;have hBe:=below_ch (by first | assumption | exact hB0.drew) hbl;(first | (have RRl':=Lib.hid (RRl.out.below hbl);clear RRl;have RRl:=RRl';clear RRl') | (have RRa':=Lib.hid (RRa.out.below hbl);clear RRa;have RRa:=RRa';clear RRa') | skip);have RRl:=Lib.hid (RowIn.own ol);obtain ⟨xl,cl,evl⟩:=ownsRow_slice ol;subst evl;clear ol hbl;obtain ⟨_,_,s3,s4,s5,s6⟩:=HSS.out _ hBe;go_wp2_with fail)
    refine hK.out _ _ ?_ (fun hH2=>?_)
    · (try dsimp only) <;> (first | exact HSS.out _ (by assumption) | exact HSS.out _ hB0.drew)
    clear hK K hH1
    try simp only [Act.put,lyA,lyZ,lyS]
    refine tk 9 rfl ?_
    try simp only [Act.put,lyA,lyZ,lyS]
    refine wpAnyH_done (by kernel_rfl) ?_ _
    rotate_left
    exact AllReadyH.nil
    exact AllReadyH.nil
    all_goals
      refine sinkQ_of fun K hK=>?_
      go_simp
      refine hK _ _ ?_
      clear hK K
      refine sinkQ_of fun K hK=>?_
      go_simp
      refine hK _ _ ?_
      clear hK K
      go_wp2_with fail
      have HCe:=Lib.hid (HC7.out.below hBe)
      refine bodyPost_ret (v:=.tuple #[.agg #[.slice xa LA.length ca,.slice xl LL.length cl],.int .i64 0]) (by simp [results,Tryz.results39,go_sem,s3,s4]) rfl ⟨HCe.out.low _ _,.inr (.inr ⟨rfl,rfl,xa,ca,xl,cl,by rw [HLA.out,HLL.out],?_,?_⟩)⟩
      · rw [HLA.out];exact RRa.out.cells2 _ _ _ _ s3 s4 (fun x e=>by cases e) (fun x e=>by cases e)
      · rw [HLL.out];exact RRl.out.cells2 _ _ _ _ s3 s4 (fun x e=>by cases e) (fun x e=>by cases e)
def actX (m:MdlD) (la ll:List Int):List Int:=if fit2 m la ll then actF m la m.vers.length else []
set_option maxRecDepth 100000 in
set_option maxHeartbeats 8000000 in
theorem sactive_any {Q:Nat→BP} (m:MdlD) (p:Ph) (la ll:List Int) (a1 a2:Option Addr) (c1 c2:Nat) (w:World) (h:Mod Q w m p) (h0:riM m=(0,0,0)) (h1:RowIn w (.slice a1 la.length c1) la) (h2:RowIn w (.slice a2 ll.length c2) ll) (b1:la.length≤1000000) (b2:ll.length≤1000000) (hvl:m.vers.length≤1000) (hrl:m.regs.length≤1000) :
   Calls Tryz.prog 36 #[stV m p,.agg #[.slice a1 la.length c1,.slice a2 ll.length c2]] w (RowP (actX m la ll) w):=by
 obtain ⟨iI,hiI,zI0,zI1,zI2⟩:=info_parts info_Num
 have HC:=Lib.hid (Sc.made (ll:=ll) (a2:=a2) (c2:=c2) h h1)
 have FT:=Lib.hid (fun wx (g:Sc m p la ll a1 a2 c1 c2 w wx)=>sfits_any m p la ll a1 a2 c1 c2 wx g.sb.mb.mod h0 g.r1 (h2.below g.sb.mb.bel) b1 b2 (by omega) (by omega))
 unfold RowP
 have HE:Hid (∀ b,fit2 m la ll=b→actX m la ll=if b then actF m la m.vers.length else []):=Lib.hid fun b hb=>by unfold actX;rw [hb]
 have HF:=Lib.hid (fun hf:fit2 m la ll=true=>(fitt_of h0 hf).1)
 have IS:=Lib.hid (fun (F:Fit m la) wx (g:Sc m p la ll a1 a2 c1 c2 w wx) (v:Int)=>sis_any m p la ll a1 a2 c1 c2 v wx g.sb.mb.mod h0 g.r1 F.hl (by omega))
 have HS0:=Lib.hid (actF_zero m la)
 have HSs:=Lib.hid (actF_succ m la)
 have HSl:=Lib.hid (actF_len m la)
 generalize actX m la ll=X at *
 generalize fit2 m la ll=fb at *
 have HX0:=Lib.hid (HE.out fb rfl)
 unfold stV at *
 clear h h0 h1 h2 HE
 go_enter Tryz.func36,Tryz.ntmps36
 go_upto_region 2 with fail
 generalize ((w.alloc (.cells #[.string m.nm,.slice p.a1 m.vars.length p.c1,.slice p.a2 m.evs.length p.c2,.slice p.a3 m.regs.length p.c3,.slice p.a4 m.vers.length p.c4,.slice p.a5 m.trns.length p.c5,.string m.nm,.slice p.a1 m.vars.length p.c1,.slice p.a2 m.evs.length p.c2,.slice p.a3 m.regs.length p.c3,.slice p.a4 m.vers.length p.c4,.slice p.a5 m.trns.length p.c5] 48)).alloc (.cells #[.slice a1 la.length c1,.slice a2 ll.length c2] 62))=W1 at *
 have hw1:w.heap.size≤W1.heap.size:=HC.out.sb.mb.bel.size
 cases fb
 · have hX:Hid (X=[]):=Lib.hid (HX0.out.trans (if_neg (by decide)))
   obtain ⟨x0,x1,x2,x3,x4,x5,_⟩:=HC.out.sb.mb.box
   obtain ⟨y0,y1,y2,y3,y4,y5⟩:=HC.out.sb.y
   have d0:=HC.out.d0
   have d1:=HC.out.d1
   go_wp2_with fail
   go_loopw [5,6] (fun o i wr=>o=.slice none 0 0∧i=.int .i64 0∧wr=W1) (fun _ _ _=>0)
   case atStart=>exact ⟨rfl,rfl,rfl⟩
   case round =>
    obtain ⟨rfl,rfl,rfl⟩:=hrel
    go_wp2_with fail
    (with_reducible refine (FT.out _ HC.out).mono ?_)
    rintro e w2 ⟨rfl,g2⟩
    have HC2:=Lib.hid (HC.out.below g2)
    go_wp2_with fail
    go_ret
    rw [hX.out]
    exact ⟨_,rfl,World.ownsRow_nil _ _ _ _,HC2.out.sb.mb.bel⟩
 · have hX:Hid (X=actF m la m.vers.length):=Lib.hid (HX0.out.trans (if_pos rfl))
   have F:=Lib.hid (HF.out rfl)
   have ISf:=Lib.hid (IS.out F.out)
   clear HX0 HF IS F
   go_wp2_with fail
   go_loopw [5,6] (fun o i wr=>∃ k:Nat,k≤m.vers.length∧i=.int .i64 k∧Below W1.heap.size W1 wr∧wr.ownsRow W1.heap.size 3 1 o (actF m la k).length (nums (actF m la k))) (fun _ i _=>m.vers.length - (intOf i).toNat)
   case atStart=>exact ⟨0,by omega,rfl,Below.refl _ _,by rw [HS0.out];exact World.ownsRow_nil _ _ _ _⟩
   case round =>
    obtain ⟨wo,rfl⟩:∃ wo:World,wo=wr:=⟨_,rfl⟩
    obtain ⟨k,hk,rfl,hb,ho⟩:=hrel
    have HBo:=Lib.hid hb
    have HSo:=Lib.hid (HC.out.below hb)
    have HO:=Lib.hid ho
    have hz5:W1.heap.size≤wo.heap.size:=hb.size
    have hln:=HSl.out k
    clear hb ho HS0
    obtain ⟨x0,x1,x2,x3,x4,x5,_⟩:=HSo.out.sb.mb.box
    obtain ⟨y0,y1,y2,y3,y4,y5⟩:=HSo.out.sb.y
    have d0:=HSo.out.d0
    have d1:=HSo.out.d1
    go_wp2_with fail
    (with_reducible refine (FT.out _ HSo.out).mono ?_)
    rintro e w2 ⟨rfl,g2⟩
    have HC2:=Lib.hid (HSo.out.below g2)
    have HB2:=Lib.hid (below_ch HBo.out g2)
    have HO2:=Lib.hid (ownsRow_keep HO.out g2)
    have hz2:W1.heap.size≤w2.heap.size:=HB2.out.size
    clear x0 x1 x2 x3 x4 x5 y0 y1 y2 y3 y4 y5 d0 d1 HSo HBo HO hz5 FT g2
    obtain ⟨x0,x1,x2,x3,x4,x5,_⟩:=HC2.out.sb.mb.box
    obtain ⟨y0,y1,y2,y3,y4,y5⟩:=HC2.out.sb.y
    have d0:=HC2.out.d0
    have d1:=HC2.out.d1
    by_cases hlt:k<m.vers.length
    · have hI:(k:Int)<(m.vers.length:Int):=by omega
      have IK:=Lib.hid (ISf.out w2 HC2.out (k:Int))
      have hS:=HSs.out k
      obtain ⟨b,hb⟩:∃ b,isA m la (k:Int)=b:=⟨_,rfl⟩
      rw [hb] at IK hS
      have HS2:=Lib.hid hS
      clear hb hS ISf HSs HSl
      go_wp2_with fail
      (with_reducible refine (IK.out).mono ?_)
      rintro e w3 ⟨rfl,g3⟩
      have HB3:=Lib.hid (below_ch HB2.out g3)
      have HO3:=Lib.hid (ownsRow_keep HO2.out g3)
      have hz3:W1.heap.size≤w3.heap.size:=HB3.out.size
      clear x0 x1 x2 x3 x4 x5 y0 y1 y2 y3 y4 y5 d0 d1 g3
      cases b
      · have HS3:Hid (actF m la (k+1)=actF m la k):=Lib.hid (by rw [HS2.out];simp)
        go_wp2_with fail
        go_roundw
        case rel=>exact ⟨k+1,by omega,by go_num,HB3.out,by rw [HS3.out];exact HO3.out⟩
        case measure=>simp [intOf] <;> omega
      · have HS3:Hid (actF m la (k+1)=actF m la k ++ [(k:Int)]):=Lib.hid (by rw [HS2.out];simp)
        go_wp2_with (at_builtin;refine wpList_append_row _ rfl _ _ 29 rfl 3 W1.heap.size iI (.int .i64 0) Tryz.underlying29 hiI zI0 zI1 zI2 rfl _ (actF m la k) rfl (HO3.out.alloc _) _ [(k:Int)] rfl (row1 _ _ _) (by simp;omega) (by simp;omega) ?_;intro v5 w5 hown5 hgrow5 hnxt5)
        have HB5:=Lib.hid (push_below HB3.out (Nat.le_refl _) HO3.out (below_al1 _ _) (by omega) hgrow5)
        go_roundw
        case rel=>exact ⟨k+1,by omega,by go_num,HB5.out,by rw [HS3.out];exact hown5⟩
        case measure=>simp [intOf] <;> omega
    · obtain rfl:k=m.vers.length:=by omega
      go_wp2_with fail
      go_ret
      rw [hX.out]
      exact ⟨_,rfl,HO2.out.mono hw1,HC2.out.sb.mb.bel⟩
theorem cmp_no {m:MdlD} {la ll:List Int} {v:Int} {fb:Bool} (h:fb=false∨stA m v=false∨isA m la v=false):cmpM m la ll v fb=false:=by
 unfold cmpM
 rcases h with h | h | h <;> rw [h] <;> simp
theorem cmp_yes {m:MdlD} {la ll:List Int} {v:Int} (h2:stA m v=true) (h3:isA m la v=true) {b:Bool} (hb:((ownM m v).any fun q=>!finM m (atL la q))=b):cmpM m la ll v true=!b:=by
 unfold cmpM
 rw [h2,h3,hb];rfl
theorem stand_no {m:MdlD} {v:Int} (h:stands m v=false):stA m v=false:=by
 cases hv:hasV m v with
 | false=>unfold stA;rw [hv];rfl
 | true =>
  obtain ⟨k,rfl,hk⟩:=hasV_nat hv
  rw [stands_at hk] at h
  unfold stA
  rw [hv,kdA_at hk]
  simp only [Bool.or_eq_false_iff] at h
  rw [h.1];rfl
theorem st_at {m:MdlD} {k:Nat} (hk:k<m.vers.length):stA m (k:Int)=(m.vers[k].kd == 1):=by
 unfold stA
 rw [hasV_at hk,kdA_at hk];rfl
theorem fin_at {m:MdlD} {k:Nat} (hk:k<m.vers.length):finM m (k:Int)=(m.vers[k].kd == 2):=by
 unfold finM
 rw [hasV_at hk,kdA_at hk];rfl
theorem fin_neg {m:MdlD} {v:Int} (h:v<0):finM m v=false:=by
 unfold finM hasV
 rw [decide_eq_false (by omega)];rfl
set_option maxRecDepth 100000 in
set_option maxHeartbeats 8000000 in
theorem scomplete_main {Q:Nat→BP} (m:MdlD) (la ll:List Int) (a1 a2:Option Addr) (c1 c2 k:Nat) (q1:Option Addr) (s1:Nat) (q2:Option Addr) (s2:Nat) (q3:Option Addr) (s3 b4 o4 s4:Nat) (q5:Option Addr) (s5:Nat) (w:World) (h:Mod Q w m ⟨q1,s1,q2,s2,q3,s3,some ⟨b4,o4,none⟩,s4,q5,s5⟩) (h0:riM m=(0,0,0)) (h1:RowIn w (.slice a1 la.length c1) la) (h2:RowIn w (.slice a2 ll.length c2) ll) (hfit:fit2 m la ll=true) (hk:k<m.vers.length) (hst:stands m (k:Int)=true) (hvl:m.vers.length≤1000) (hrl:m.regs.length≤1000) :
   Calls Tryz.prog 37 #[stV m ⟨q1,s1,q2,s2,q3,s3,some ⟨b4,o4,none⟩,s4,q5,s5⟩,.agg #[.slice a1 la.length c1,.slice a2 ll.length c2],.int .i64 (k:Int)] w fun e w'=>e=.returned (.bool (cmpM m la ll k true))∧Below w.heap.size w w':=by
 obtain ⟨F,F2⟩:=fitt_of h0 hfit
 have HC:=Lib.hid (Sc.made (ll:=ll) (a2:=a2) (c2:=c2) h h1)
 have FT:=Lib.hid (fun wx (g:Sc m ⟨q1,s1,q2,s2,q3,s3,some ⟨b4,o4,none⟩,s4,q5,s5⟩ la ll a1 a2 c1 c2 w wx)=>sfits_any m _ la ll a1 a2 c1 c2 wx g.sb.mb.mod h0 g.r1 (h2.below g.sb.mb.bel) (by rw [F.hl];omega) (by rw [F2.hl];omega) (by omega) (by omega))
 have VX:=Lib.hid (fun wx (g:Sc m ⟨q1,s1,q2,s2,q3,s3,some ⟨b4,o4,none⟩,s4,q5,s5⟩ la ll a1 a2 c1 c2 w wx)=>svertex_any m _ (k:Int) wx g.sb.mb.mod (by omega))
 have IS:=Lib.hid (fun wx (g:Sc m ⟨q1,s1,q2,s2,q3,s3,some ⟨b4,o4,none⟩,s4,q5,s5⟩ la ll a1 a2 c1 c2 w wx)=>sis_any m _ la ll a1 a2 c1 c2 (k:Int) wx g.sb.mb.mod h0 g.r1 F.hl (by omega))
 have RG:=Lib.hid (fun wx (g:Sc m ⟨q1,s1,q2,s2,q3,s3,some ⟨b4,o4,none⟩,s4,q5,s5⟩ la ll a1 a2 c1 c2 w wx)=>rregions16_any m _ (k:Int) wx g.sb.mb.mod (by omega))
 have HV:Hid (∀ wx,Sc m ⟨q1,s1,q2,s2,q3,s3,some ⟨b4,o4,none⟩,s4,q5,s5⟩ la ll a1 a2 c1 c2 w wx→∀ (j:Nat) (hj:j<m.vers.length),wx.cell? ⟨b4,o4+j * 8+1,none⟩=some (.int .u8 m.vers[j].kd)):=Lib.hid (fun wx g j hj=>by
   obtain ⟨b2,o2,ea,hb2,dv,_,_,r1,_⟩:=g.sb.mb.mod.vers.get hj
   simp only [Option.some.injEq,Addr.mk.injEq] at ea
   obtain ⟨rfl,rfl,_⟩:=ea
   exact r1)
 have hcv:=h.vers.cap (by omega)
 dsimp only at hcv
 have HN:=Lib.hid (fun hh=>cmp_no (m:=m) (la:=la) (ll:=ll) (v:=(k:Int)) (fb:=true) hh)
 have HY:=Lib.hid (fun q2 q3 b hb=>cmp_yes (m:=m) (la:=la) (ll:=ll) (v:=(k:Int)) q2 q3 (b:=b) hb)
 have HRw:=Lib.hid (fun wx (g:Sc m ⟨q1,s1,q2,s2,q3,s3,some ⟨b4,o4,none⟩,s4,q5,s5⟩ la ll a1 a2 c1 c2 w wx)=>g.r1.len)
 have HFr:Hid (∀ (q:Int),q ∈ ownM m (k:Int)→∃ j:Nat,q=j∧j<la.length∧(atL la j<0∨∃ y:Nat,y<m.vers.length∧atL la j=y)):=Lib.hid (fun q hq=>by
   obtain ⟨j,hj,rfl,_⟩:=own_at hq
   refine ⟨j,rfl,by rw [F.hl];exact hj,?_⟩
   by_cases hn:atL la j<0
   · exact .inl hn
   · obtain ⟨y,hy,ey,_⟩:=fit_in F.hl F.hf hj (by omega)
     exact .inr ⟨y,hy,ey⟩)
 have hLn:(ownM m (k:Int)).length≤1000:=by have:=sel_len (isOwn (k:Int)) m.regs;have e:(ownM m (k:Int)).length≤m.regs.length:=this;omega
 rw [hfit] at FT
 rw [hst] at VX
 have HStk:=Lib.hid (st_at hk)
 have HVk:=Lib.hid (fun wx g=>HV.out wx g k hk)
 obtain ⟨kx,hkx⟩:∃ x,m.vers[k].kd=x:=⟨_,rfl⟩
 rw [hkx] at HStk HVk
 have hkI:(k:Int)<(m.vers.length:Int):=by omega
 have hk0:(0:Int)≤(k:Int):=by omega
 unfold RowP at RG
 unfold ixV at RG
 unfold stV mdV at *
 dsimp only at FT VX IS RG ⊢
 clear h h0 h1 h2 hfit hst hkx F F2
 go_enter Tryz.func37,Tryz.ntmps37
 go_upto_region 1 with fail
 generalize ((w.alloc (.cells #[.string m.nm,.slice q1 m.vars.length s1,.slice q2 m.evs.length s2,.slice q3 m.regs.length s3,.slice (some ⟨b4,o4,none⟩) m.vers.length s4,.slice q5 m.trns.length s5,.string m.nm,.slice q1 m.vars.length s1,.slice q2 m.evs.length s2,.slice q3 m.regs.length s3,.slice (some ⟨b4,o4,none⟩) m.vers.length s4,.slice q5 m.trns.length s5] 48)).alloc (.cells #[.slice a1 la.length c1,.slice a2 ll.length c2] 62))=W1 at *
 obtain ⟨x0,x1,x2,x3,x4,x5,_⟩:=HC.out.sb.mb.box
 obtain ⟨y0,y1,y2,y3,y4,y5⟩:=HC.out.sb.y
 have d0:=HC.out.d0
 have d1:=HC.out.d1
 dsimp only at x0 x1 x2 x3 x4 x5 y0 y1 y2 y3 y4 y5
 go_wp2_with fail
 (with_reducible refine (FT.out _ HC.out).mono ?_)
 rintro e w2 ⟨rfl,g2⟩
 have HC2:=Lib.hid (HC.out.below g2)
 clear x0 x1 x2 x3 x4 x5 y0 y1 y2 y3 y4 y5 d0 d1 HC FT g2
 obtain ⟨x0,x1,x2,x3,x4,x5,_⟩:=HC2.out.sb.mb.box
 obtain ⟨y0,y1,y2,y3,y4,y5⟩:=HC2.out.sb.y
 dsimp only at x0 x1 x2 x3 x4 x5 y0 y1 y2 y3 y4 y5
 go_wp2_with fail
 (with_reducible refine (VX.out _ HC2.out).mono ?_)
 rintro e w3 ⟨rfl,g3⟩
 have HC3:=Lib.hid (HC2.out.below g3)
 clear x0 x1 x2 x3 x4 x5 y0 y1 y2 y3 y4 y5 HC2 VX g3
 obtain ⟨x0,x1,x2,x3,x4,x5,_⟩:=HC3.out.sb.mb.box
 obtain ⟨y0,y1,y2,y3,y4,y5⟩:=HC3.out.sb.y
 have d0:=HC3.out.d0
 have d1:=HC3.out.d1
 dsimp only at x0 x1 x2 x3 x4 x5 y0 y1 y2 y3 y4 y5
 have r1:=HVk.out w3 HC3.out
 cases hq:(kx == 1) with
 | false =>
  have hq2:((kx:Int) != 1)=true:=by simp at hq ⊢;omega
  have HX:=Lib.hid (HN.out (.inr (.inl (HStk.out.trans hq))))
  clear HN HY HStk hq
  go_wp2_with fail
  go_ret
  exact ⟨by rw [HX.out];first | done | rfl,HC3.out.sb.mb.bel⟩
 | true =>
  have hq2:((kx:Int) != 1)=false:=by simp at hq ⊢;omega
  obtain ⟨ia,hia⟩:∃ b,isA m la (k:Int)=b:=⟨_,rfl⟩
  rw [hia] at IS HN HY
  have HY1:=Lib.hid (fun q3 b hb=>HY.out (HStk.out.trans hq) q3 b hb)
  clear hq hia HY HStk
  go_wp2_with fail
  (with_reducible refine (IS.out _ HC3.out).mono ?_)
  rintro e w4 ⟨rfl,g4⟩
  have HC4:=Lib.hid (HC3.out.below g4)
  clear x0 x1 x2 x3 x4 x5 y0 y1 y2 y3 y4 y5 d0 d1 r1 HC3 IS g4 HVk
  cases ia
  · have HX:=Lib.hid (HN.out (.inr (.inr rfl)))
    clear HN HY1
    go_wp2_with fail
    go_ret
    exact ⟨by rw [HX.out];first | done | rfl,HC4.out.sb.mb.bel⟩
  have HYb:=Lib.hid (HY1.out rfl)
  clear HN HY1
  generalize ownM m (k:Int)=R at *
  obtain ⟨y0,y1,y2,y3,y4,y5⟩:=HC4.out.sb.y
  dsimp only at y0 y1 y2 y3 y4 y5
  go_wp2_with fail
  (with_reducible refine (RG.out _ HC4.out).mono ?_)
  rintro e w5 ⟨v5,rfl,o5,g5⟩
  have HC5:=Lib.hid (HC4.out.below g5)
  have R5:=Lib.hid (RowIn.own o5)
  obtain ⟨a,c,rfl,hcr,_⟩:=R5.out.len
  have HR:=Lib.hid (fun (wx:World) (g:Below w5.heap.size w5 wx)=>(R5.out.below g).len)
  clear y0 y1 y2 y3 y4 y5 HC4 o5 g5 RG R5
  obtain ⟨n,hn⟩:∃ n,R.length=n:=⟨_,rfl⟩
  have HNn:=Lib.hid hn
  rw [hn] at hLn hcr ⊢
  clear hn
  go_wp2_with fail
  go_loopw [8] (fun i wr=>∃ k:Nat,k≤n∧i=.int .i64 k∧Below w5.heap.size w5 wr∧∀ j (hj:j<R.length),j<k→finM m (atL la R[j])=true) (fun i _=>n - (intOf i).toNat)
  case atStart=>exact ⟨0,by omega,rfl,Below.refl _ _,fun j _ hj=>by omega⟩
  case round =>
   obtain ⟨wo,rfl⟩:∃ wo:World,wo=wr:=⟨_,rfl⟩
   obtain ⟨i,hi,rfl,hb,hno⟩:=hrel
   have HBo:=Lib.hid hb
   have HSo:=Lib.hid (HC5.out.below hb)
   have HNo:=Lib.hid hno
   clear hb hno
   by_cases hlt:i<n
   · have hil:i<R.length:=by rw [HNn.out];exact hlt
     obtain ⟨a',c',e,_,q⟩:=HR.out wo HBo.out
     obtain ⟨bx,ox,ea,hbl,hcl⟩:=q i hil
     simp only [Value.slice.injEq] at e
     obtain ⟨rfl,e',rfl⟩:=e
     clear e'
     subst ea
     have hI:(i:Int)<(n:Int):=by omega
     have hI0:(0:Int)≤(i:Int):=by omega
     obtain ⟨j,ej,hj,hor⟩:=HFr.out _ (List.getElem_mem hil)
     have HS:Hid ((finM m (atL la j)=true→∀ j' (hj:j'<R.length),j'<i+1→finM m (atL la R[j'])=true)∧(finM m (atL la j)=false→(R.any fun q=>!finM m (atL la q))=true)):=Lib.hid ⟨fun ht j' hj' hji=>by
       by_cases e:j'=i
       · subst e;rw [ej];exact ht
       · exact HNo.out j' hj' (by omega),fun hf=>List.any_eq_true.2 ⟨R[i],List.getElem_mem hil,by rw [ej,hf];rfl⟩⟩
     rw [ej] at hcl
     obtain ⟨a'',c'',e,hcl1,q2⟩:=HRw.out wo HSo.out
     obtain ⟨b1,o1,ea,hbl1,hcl2⟩:=q2 j hj
     simp only [Value.slice.injEq] at e
     obtain ⟨rfl,e',rfl⟩:=e
     clear e'
     subst ea
     rw [← atL_at hj] at hcl2
     have hjI:(j:Int)<(la.length:Int):=by omega
     have hj0:(0:Int)≤(j:Int):=by omega
     have d0:=HSo.out.d0
     obtain ⟨_,_,_,_,x4,_,_⟩:=HSo.out.sb.mb.box
     dsimp only at x4
     have HVo:=Lib.hid (fun y hy=>HV.out wo HSo.out y hy)
     have hB0:Below wo.heap.size wo wo:=Below.refl _ _
     generalize atL la (j:Int)=z at *
     clear q q2 ej
     rcases hor with hn | ⟨y,hy,rfl⟩
     · have hX:Hid (cmpM m la ll k true=false):=Lib.hid ((HYb.out _ (HS.out.2 (fin_neg hn))).trans rfl)
       clear HS
       go_wp2_with fail
       go_quiet (fail)
       go_wp2_with fail
       go_ret
       exact ⟨by rw [hX.out];first | done | rfl,(HSo.out.below (below_drewN hB0 _)).sb.mb.bel⟩
     · have r1:=HVo.out y hy
       rw [fin_at hy] at HS
       obtain ⟨ky,hky⟩:∃ x,m.vers[y].kd=x:=⟨_,rfl⟩
       rw [hky] at r1 HS
       have hyn:¬ ((y:Int)<0):=by omega
       have hyI:(y:Int)<(m.vers.length:Int):=by omega
       have hy0:(0:Int)≤(y:Int):=by omega
       clear hky
       cases hq:(ky == 2) with
       | false =>
        have hq2:((ky:Int) != 2)=true:=by simp at hq ⊢;omega
        have hX:Hid (cmpM m la ll k true=false):=Lib.hid ((HYb.out _ (HS.out.2 hq)).trans rfl)
        clear HS hq
        go_wp2_with fail
        go_quiet (fail)
        go_wp2_with fail
        go_ret
        exact ⟨by rw [hX.out];first | done | rfl,(HSo.out.below (below_drewN hB0 _)).sb.mb.bel⟩
       | true =>
        have hq2:((ky:Int) != 2)=false:=by simp at hq ⊢;omega
        have hN:=Lib.hid (HS.out.1 hq)
        clear HS hq
        go_wp2_with fail
        go_quiet (fail)
        go_wp2_with fail
        go_roundw
        case rel=>exact ⟨i+1,by omega,by go_num,below_drewN HBo.out _,hN.out⟩
        case measure=>simp [intOf] <;> omega
   · have hX:Hid (cmpM m la ll k true=true):=Lib.hid ((HYb.out false (List.any_eq_false.2 fun x hx=>by
       obtain ⟨j,hj,rfl⟩:=List.getElem_of_mem hx
       rw [HNo.out j hj (by have:=HNn.out;omega)];simp)).trans rfl)
     go_wp2_with fail
     go_ret
     exact ⟨by rw [hX.out];first | done | rfl,HSo.out.sb.mb.bel⟩
set_option maxRecDepth 100000 in
set_option maxHeartbeats 8000000 in
theorem scomplete_any {Q:Nat→BP} (m:MdlD) (p:Ph) (la ll:List Int) (a1 a2:Option Addr) (c1 c2:Nat) (v:Int) (w:World) (h:Mod Q w m p) (h0:riM m=(0,0,0)) (h1:RowIn w (.slice a1 la.length c1) la) (h2:RowIn w (.slice a2 ll.length c2) ll) (b1:la.length≤1000000) (b2:ll.length≤1000000) (hvl:m.vers.length≤1000) (hrl:m.regs.length≤1000) :
   Calls Tryz.prog 37 #[stV m p,.agg #[.slice a1 la.length c1,.slice a2 ll.length c2],.int .i64 v] w fun e w'=>e=.returned (.bool (cmpM m la ll v (fit2 m la ll)))∧Below w.heap.size w w':=by
 have HC:=Lib.hid (Sc.made (ll:=ll) (a2:=a2) (c2:=c2) h h1)
 have FT:=Lib.hid (fun wx (g:Sc m p la ll a1 a2 c1 c2 w wx)=>sfits_any m p la ll a1 a2 c1 c2 wx g.sb.mb.mod h0 g.r1 (h2.below g.sb.mb.bel) b1 b2 (by omega) (by omega))
 have VX:=Lib.hid (fun wx (g:Sc m p la ll a1 a2 c1 c2 w wx)=>svertex_any m p v wx g.sb.mb.mod (by omega))
 have HN:=Lib.hid (fun fb hh=>cmp_no (m:=m) (la:=la) (ll:=ll) (v:=v) (fb:=fb) hh)
 obtain ⟨fb,hfb⟩:∃ fb,fit2 m la ll=fb:=⟨_,rfl⟩
 obtain ⟨sb,hsb⟩:∃ sb,stands m v=sb:=⟨_,rfl⟩
 cases fb
 · rw [hfb] at FT ⊢
   have HX:=Lib.hid (HN.out false (.inl rfl))
   unfold stV at *
   clear h h0 h1 h2 hfb hsb HN VX
   go_enter Tryz.func37,Tryz.ntmps37
   obtain ⟨x0,x1,x2,x3,x4,x5,_⟩:=HC.out.sb.mb.box
   obtain ⟨y0,y1,y2,y3,y4,y5⟩:=HC.out.sb.y
   have d0:=HC.out.d0
   have d1:=HC.out.d1
   go_wp2_with fail
   (with_reducible refine (FT.out _ HC.out).mono ?_)
   rintro e w2 ⟨rfl,g2⟩
   go_wp2_with fail
   go_ret
   exact ⟨by rw [HX.out];first | done | rfl,(HC.out.below g2).sb.mb.bel⟩
 cases sb
 · rw [hfb] at FT ⊢
   rw [hsb] at VX
   have HX:=Lib.hid (HN.out true (.inr (.inl (stand_no hsb))))
   unfold stV at *
   clear h h0 h1 h2 hfb hsb HN
   go_enter Tryz.func37,Tryz.ntmps37
   obtain ⟨x0,x1,x2,x3,x4,x5,_⟩:=HC.out.sb.mb.box
   obtain ⟨y0,y1,y2,y3,y4,y5⟩:=HC.out.sb.y
   have d0:=HC.out.d0
   have d1:=HC.out.d1
   go_wp2_with fail
   (with_reducible refine (FT.out _ HC.out).mono ?_)
   rintro e w2 ⟨rfl,g2⟩
   have HC2:=Lib.hid (HC.out.below g2)
   clear x0 x1 x2 x3 x4 x5 y0 y1 y2 y3 y4 y5 d0 d1 HC FT g2
   obtain ⟨x0,x1,x2,x3,x4,x5,_⟩:=HC2.out.sb.mb.box
   obtain ⟨y0,y1,y2,y3,y4,y5⟩:=HC2.out.sb.y
   go_wp2_with fail
   (with_reducible refine (VX.out _ HC2.out).mono ?_)
   rintro e w3 ⟨rfl,g3⟩
   go_wp2_with fail
   go_ret
   exact ⟨by rw [HX.out];first | done | rfl,(HC2.out.below g3).sb.mb.bel⟩
 obtain ⟨k,hk,rfl,_⟩:=stands_in h0 hsb
 obtain ⟨b4,o4,ea,_⟩:=h.vers.get hk
 obtain ⟨q1,s1,q2,s2,q3,s3,q4,s4,q5,s5⟩:=p
 dsimp only at ea
 subst ea
 rw [hfb]
 exact scomplete_main m la ll a1 a2 c1 c2 k q1 s1 q2 s2 q3 s3 b4 o4 s4 q5 s5 w h h0 h1 h2 hfb hk hsb hvl hrl
set_option maxRecDepth 100000 in
set_option maxHeartbeats 8000000 in
theorem sexits_any {Q:Nat→BP} (m:MdlD) (p:Ph) (la ll:List Int) (a1 a2:Option Addr) (c1 c2:Nat) (r:Int) (w:World) (h:Mod Q w m p) (h0:riM m=(0,0,0)) (h1:RowIn w (.slice a1 la.length c1) la) (h2:RowIn w (.slice a2 ll.length c2) ll) (b1:la.length≤1000000) (b2:ll.length≤1000000) (hvl:m.vers.length≤100) (hrl:m.regs.length≤100) :
   Calls Tryz.prog 34 #[stV m p,.agg #[.slice a1 la.length c1,.slice a2 ll.length c2],.int .i64 r] w (RowP (exitsM m la ll r) w):=by
 have HC:=Lib.hid (Sc.made (ll:=ll) (a2:=a2) (c2:=c2) h h1)
 have FT:=Lib.hid (fun wx (g:Sc m p la ll a1 a2 c1 c2 w wx)=>sfits_any m p la ll a1 a2 c1 c2 wx g.sb.mb.mod h0 g.r1 (h2.below g.sb.mb.bel) b1 b2 (by omega) (by omega))
 obtain ⟨fb,hfb⟩:∃ fb,fit2 m la ll=fb:=⟨_,rfl⟩
 cases fb
 · have hX:exitsM m la ll r=[]:=by unfold exitsM;rw [hfb];rfl
   rw [hX]
   rw [hfb] at FT
   unfold RowP
   unfold stV at *
   clear h h0 h1 h2 hfb hX
   go_enter Tryz.func34,Tryz.ntmps34
   obtain ⟨x0,x1,x2,x3,x4,x5,_⟩:=HC.out.sb.mb.box
   obtain ⟨y0,y1,y2,y3,y4,y5⟩:=HC.out.sb.y
   have d0:=HC.out.d0
   have d1:=HC.out.d1
   go_wp2_with fail
   (with_reducible refine (FT.out _ HC.out).mono ?_)
   rintro e w2 ⟨rfl,g2⟩
   have HC2:=Lib.hid (HC.out.below g2)
   go_wp2_with fail
   go_ret
   exact ⟨_,rfl,World.ownsRow_nil _ _ _ _,HC2.out.sb.mb.bel⟩
 obtain ⟨F,F2⟩:=fitt_of h0 hfb
 cases hr:hasR m r with
 | true =>
  obtain ⟨k,rfl,hk⟩:=hasR_yes hr
  have hX:exitsM m la ll k=exF m la 66 k:=by unfold exitsM;rw [hfb,hr];rfl
  rw [hX]
  exact sexits_fit m p la ll a1 a2 c1 c2 F F2 hvl hrl 66 k Q w hk (fun _ _=>by omega) h h1 h2
 | false =>
  have hX:exitsM m la ll r=[]:=by unfold exitsM;rw [hfb,hr];rfl
  rw [hX]
  rw [hfb] at FT
  unfold RowP
  unfold stV at *
  unfold hasR at hr
  have hlr:(la.length:Int)=m.regs.length:=by rw [F.hl]
  by_cases hr0:r<0
  · clear h h0 h1 h2 hfb hX F F2 hr hlr
    go_enter Tryz.func34,Tryz.ntmps34
    obtain ⟨x0,x1,x2,x3,x4,x5,_⟩:=HC.out.sb.mb.box
    obtain ⟨y0,y1,y2,y3,y4,y5⟩:=HC.out.sb.y
    have d0:=HC.out.d0
    have d1:=HC.out.d1
    go_wp2_with fail
    (with_reducible refine (FT.out _ HC.out).mono ?_)
    rintro e w2 ⟨rfl,g2⟩
    have HC2:=Lib.hid (HC.out.below g2)
    go_wp2_with fail
    go_ret
    exact ⟨_,rfl,World.ownsRow_nil _ _ _ _,HC2.out.sb.mb.bel⟩
  · have hr1:(la.length:Int)≤r:=by
      rw [hlr]
      rw [decide_eq_true (show (0:Int)≤r by omega),Bool.true_and,decide_eq_false_iff_not] at hr
      omega
    clear h h0 h1 h2 hfb hX F F2 hr hlr
    go_enter Tryz.func34,Tryz.ntmps34
    obtain ⟨x0,x1,x2,x3,x4,x5,_⟩:=HC.out.sb.mb.box
    obtain ⟨y0,y1,y2,y3,y4,y5⟩:=HC.out.sb.y
    have d0:=HC.out.d0
    have d1:=HC.out.d1
    go_wp2_with fail
    (with_reducible refine (FT.out _ HC.out).mono ?_)
    rintro e w2 ⟨rfl,g2⟩
    have HC2:=Lib.hid (HC.out.below g2)
    clear x0 x1 x2 x3 x4 x5 y0 y1 y2 y3 y4 y5 d0 d1
    have d0:=HC2.out.d0
    go_wp2_with fail
    go_ret
    exact ⟨_,rfl,World.ownsRow_nil _ _ _ _,HC2.out.sb.mb.bel⟩
structure Ans where
 a:List Int
 l:List Int
 e:Nat
def ansOf (E:Nat) (ok:Bool) (la ll:List Int):Ans:=if E=0 then (if ok then ⟨la,ll,0⟩ else ⟨[],[],4⟩) else ⟨[],[],E⟩
def AnsO (A:Ans) (w:World) (e:Ending) (w':World):Prop:=∃ u1 t1 u2 t2,e=.returned (.tuple #[.agg #[.slice u1 A.a.length t1,.slice u2 A.l.length t2],.int .i64 (A.e:Int)])∧Below w.heap.size w w'∧w'.ownsRow w.heap.size 3 1 (.slice u1 A.a.length t1) A.a.length (nums A.a)∧w'.ownsRow w.heap.size 3 1 (.slice u2 A.l.length t2) A.l.length (nums A.l)
def AnsR (A:Ans) (w:World) (e:Ending) (w':World):Prop:=∃ u1 t1 u2 t2,e=.returned (.tuple #[.agg #[.slice u1 A.a.length t1,.slice u2 A.l.length t2],.int .i64 (A.e:Int)])∧Below w.heap.size w w'∧RowIn w' (.slice u1 A.a.length t1) A.a∧RowIn w' (.slice u2 A.l.length t2) A.l
theorem ansO_nil (E:Nat) {w w':World} (hb:Below w.heap.size w w'):AnsO ⟨[],[],E⟩ w (.returned (.tuple #[.agg #[.slice none 0 0,.slice none 0 0],.int .i64 (E:Int)])) w' :=
 ⟨none,0,none,0,rfl,hb,World.ownsRow_nil _ _ _ _,World.ownsRow_nil _ _ _ _⟩
theorem ansR_nil (E:Nat) {w w':World} (hb:Below w.heap.size w w'):AnsR ⟨[],[],E⟩ w (.returned (.tuple #[.agg #[.slice none 0 0,.slice none 0 0],.int .i64 (E:Int)])) w' :=
 ⟨none,0,none,0,rfl,hb,.inl ⟨_,_,rfl,rfl⟩,.inl ⟨_,_,rfl,rfl⟩⟩
theorem ansR_of {E:Nat} {ok:Bool} {la ll:List Int} {w w':World} {e:Ending} (h:StepR E ok la ll w e w'):AnsR (ansOf E ok la ll) w e w':=by
 obtain ⟨hb,(⟨hn,rfl⟩ | ⟨rfl,rfl,rfl⟩ | ⟨rfl,rfl,a1,k1,a2,k2,rfl,h1,h2⟩)⟩:=h
 · unfold ansOf;rw [if_neg hn];exact ansR_nil E hb
 · exact ansR_nil 4 hb
 · exact ⟨a1,k1,a2,k2,rfl,hb,h1,h2⟩
theorem ansO_of {E:Nat} {ok:Bool} {la ll la' ll':List Int} {w w':World} {e:Ending} (e1:la.length=la'.length) (e2:ll.length=ll'.length)
   (h:Below w.heap.size w w'∧((E≠0∧e=.returned (.tuple #[.agg #[.slice none 0 0,.slice none 0 0],.int .i64 (E:Int)]))∨(E=0∧ok=false∧e=.returned (.tuple #[.agg #[.slice none 0 0,.slice none 0 0],.int .i64 4])) ∨
     (E=0∧ok=true∧∃ v1 v2,e=.returned (.tuple #[.agg #[v1,v2],.int .i64 0])∧w'.ownsRow w.heap.size 3 1 v1 la.length (nums la')∧w'.ownsRow w.heap.size 3 1 v2 ll.length (nums ll')∧∀ g,v1.ownBlock=some g→v2.ownBlock≠some g))):AnsO (ansOf E ok la' ll') w e w':=by
 obtain ⟨hb,(⟨hn,rfl⟩ | ⟨rfl,rfl,rfl⟩ | ⟨rfl,rfl,v1,v2,rfl,h1,h2,_⟩)⟩:=h
 · unfold ansOf;rw [if_neg hn];exact ansO_nil E hb
 · exact ansO_nil 4 hb
 · rw [e1] at h1
   rw [e2] at h2
   obtain ⟨u1,t1,rfl⟩:=ownsRow_slice h1
   obtain ⟨u2,t2,rfl⟩:=ownsRow_slice h2
   exact ⟨u1,t1,u2,t2,rfl,hb,h1,h2⟩
def entA (m:MdlD) (la ll:List Int) (v:Int):Ans:=ansOf (mayE m la ll v) (enterOk m la v) (la.set (rgA m v).toNat v) ll
def leaA (m:MdlD) (la ll:List Int) (v:Int):Ans:=ansOf (mayE m la ll v) (leaveOk m la v) (la.set (rgA m v).toNat (-1)) (ll.set (rgA m v).toNat v)
theorem ans_len (E:Nat) (ok:Bool) (la ll:List Int):(ansOf E ok la ll).a.length≤la.length∧(ansOf E ok la ll).l.length≤ll.length:=by
 unfold ansOf
 split
 · split <;> simp
 · simp
theorem sameC_self (a b:List Int):sameC a b a b=true:=by unfold sameC;simp
theorem act_same {m:MdlD} (h0:riM m=(0,0,0)) (la ll:List Int):actX m la ll=actC m la ll:=by
 unfold actX actC
 cases h:fit2 m la ll with
 | false=>rfl
 | true=>rw [if_pos rfl,if_pos rfl,act_eq (fitt_of h0 h).1]
theorem actC_len {m:MdlD} (h0:riM m=(0,0,0)) (la ll:List Int):(actC m la ll).length≤m.vers.length:=by
 unfold actC
 cases h:fit2 m la ll with
 | false=>simp
 | true=>rw [if_pos rfl];exact actS_len (fitt_of h0 h).1
theorem own_aside {w w4:World} {N n:Nat} {T:TypeId} {v:Value} {xs:List Value} {o:Obj} {r:Option Nat} (h:w.ownsRow N T 1 v n xs) (hg:(w.alloc o).grownBy w4 r) (hne:∀ g,v.ownBlock=some g→r≠some g):w4.ownsRow N T 1 v n xs:=by
 obtain ⟨h1,h2⟩:=h
 refine ⟨h1,?_⟩
 rcases h2 with h2 | ⟨g,cap,cur,e,hb,hgc,r'⟩
 · exact .inl h2
 · have hl:=(Array.getElem?_eq_some_iff.1 hgc).1
   refine .inr ⟨g,cap,cur,e,hb,?_,r'⟩
   rw [hg.block g (by simp;omega) (fun e'=>hne g (by rw [e];rfl) e'.symm),Below.heap_alloc _ _ _ hl]
   exact hgc
structure Bkr (m:MdlD) (p:Ph) (k1 k2:Nat) (v1 v2:Value) (w wr:World):Prop where
 sb:Sb m p w.heap.size w wr
 r0:wr.cell? ⟨w.heap.size+1,0,none⟩=some (.slice none 0 0)
 r1:wr.cell? ⟨w.heap.size+1,1,none⟩=some (.slice none 0 0)
 q0:wr.frozen? ⟨w.heap.size+1,0,none⟩=false
 q1:wr.frozen? ⟨w.heap.size+1,1,none⟩=false
 c0:wr.cell? ⟨w.heap.size+1+1,0,none⟩=some v1
 c1:wr.cell? ⟨w.heap.size+1+1,1,none⟩=some v2
 f0:wr.frozen? ⟨w.heap.size+1+1,0,none⟩=false
 f1:wr.frozen? ⟨w.heap.size+1+1,1,none⟩=false
 o1:wr.ownsRow (w.heap.size+3) 3 1 v1 k1 (nums (List.replicate k1 (-1)))
 o2:wr.ownsRow (w.heap.size+3) 3 1 v2 k2 (nums (List.replicate k2 (-1)))
 ap:∀ g,v1.ownBlock=some g→v2.ownBlock≠some g
 sz:w.heap.size+3≤wr.heap.size
section
variable {m:MdlD} {p:Ph} {k1 k2:Nat} {v1 v2 v4:Value} {w wr w4:World} {o:Obj}
theorem Sb.low {wx wy:World} (h:Sb m p w.heap.size w wx) (g:Below (w.heap.size+1) wx wy):Sb m p w.heap.size w wy:=by
 obtain ⟨y0,y1,y2,y3,y4,y5⟩:=h.y
 exact ⟨h.mb.low g,(g.cell (p:=⟨w.heap.size,6,none⟩) (by simp)).trans y0,(g.cell (p:=⟨w.heap.size,7,none⟩) (by simp)).trans y1,(g.cell (p:=⟨w.heap.size,8,none⟩) (by simp)).trans y2,(g.cell (p:=⟨w.heap.size,9,none⟩) (by simp)).trans y3,(g.cell (p:=⟨w.heap.size,10,none⟩) (by simp)).trans y4,(g.cell (p:=⟨w.heap.size,11,none⟩) (by simp)).trans y5⟩
theorem Bkr.push1 (h:Bkr m p k1 k2 v1 v2 w wr) (hg:(wr.alloc o).grownBy w4 v1.ownBlock) (ho:w4.ownsRow (w.heap.size+3) 3 1 v4 (k1+1) (nums (List.replicate (k1+1) (-1)))) (hn:Nxt v1 v4 (wr.alloc o).heap.size):Bkr m p (k1+1) k2 v4 v2 w (w4.setCell ⟨w.heap.size+1+1,0,none⟩ v4):=by
 have hz:=h.sz
 have G3:Below (w.heap.size+3) wr w4:=((Below.refl _ _).alloc hz o).grown hg (by simp;omega) (fun q hq=>(h.o1.lt q hq).1)
 have G2:Below (w.heap.size+1+1) wr (w4.setCell ⟨w.heap.size+1+1,0,none⟩ v4):=(show Below (w.heap.size+1+1) wr w4 from G3.mono (by omega)).setCell (p:=⟨w.heap.size+1+1,0,none⟩) (Nat.le_refl _) v4
 have c0:=(G3.cell (p:=⟨w.heap.size+1+1,0,none⟩) (by simp only;omega)).trans h.c0
 have c1:=(G3.cell (p:=⟨w.heap.size+1+1,1,none⟩) (by simp only;omega)).trans h.c1
 have f0:=(G3.frozen (p:=⟨w.heap.size+1+1,0,none⟩) (by simp only;omega)).trans h.f0
 have f1:=(G3.frozen (p:=⟨w.heap.size+1+1,1,none⟩) (by simp only;omega)).trans h.f1
 have o2:=own_aside h.o2 hg (fun g hg1 hg2=>h.ap g hg2 hg1)
 refine ⟨h.sb.low (G2.mono (by omega)),(G2.cell (p:=⟨w.heap.size+1,0,none⟩) (by simp only;omega)).trans h.r0,(G2.cell (p:=⟨w.heap.size+1,1,none⟩) (by simp only;omega)).trans h.r1,(G2.frozen (p:=⟨w.heap.size+1,0,none⟩) (by simp only;omega)).trans h.q0,(G2.frozen (p:=⟨w.heap.size+1,1,none⟩) (by simp only;omega)).trans h.q1,World.cell?_setCell_same _ _ _ c0,(World.cell?_setCell_other _ _ _ _ (by simp)).trans c1,by rw [World.frozen?_setCell];exact f0,by rw [World.frozen?_setCell];exact f1,
   ownsRow_setCell_below (a:=⟨w.heap.size+1+1,0,none⟩) ho (by simp only;omega) _,ownsRow_setCell_below (a:=⟨w.heap.size+1+1,0,none⟩) o2 (by simp only;omega) _,fun g h4 h2=>?_,by have:=G3.size;rw [World.size_setCell];omega⟩
 rcases hn with hn | hn
 · exact h.ap g (hn ▸ h4) h2
 · have e1:=hn g h4
   have e2:=(h.o2.lt g h2).2
   simp at e1;omega
theorem Bkr.push2 (h:Bkr m p k1 k2 v1 v2 w wr) (hg:(wr.alloc o).grownBy w4 v2.ownBlock) (ho:w4.ownsRow (w.heap.size+3) 3 1 v4 (k2+1) (nums (List.replicate (k2+1) (-1)))) (hn:Nxt v2 v4 (wr.alloc o).heap.size):Bkr m p k1 (k2+1) v1 v4 w (w4.setCell ⟨w.heap.size+1+1,1,none⟩ v4):=by
 have hz:=h.sz
 have G3:Below (w.heap.size+3) wr w4:=((Below.refl _ _).alloc hz o).grown hg (by simp;omega) (fun q hq=>(h.o2.lt q hq).1)
 have G2:Below (w.heap.size+1+1) wr (w4.setCell ⟨w.heap.size+1+1,1,none⟩ v4):=(show Below (w.heap.size+1+1) wr w4 from G3.mono (by omega)).setCell (p:=⟨w.heap.size+1+1,1,none⟩) (Nat.le_refl _) v4
 have c0:=(G3.cell (p:=⟨w.heap.size+1+1,0,none⟩) (by simp only;omega)).trans h.c0
 have c1:=(G3.cell (p:=⟨w.heap.size+1+1,1,none⟩) (by simp only;omega)).trans h.c1
 have f0:=(G3.frozen (p:=⟨w.heap.size+1+1,0,none⟩) (by simp only;omega)).trans h.f0
 have f1:=(G3.frozen (p:=⟨w.heap.size+1+1,1,none⟩) (by simp only;omega)).trans h.f1
 have o1:=own_aside h.o1 hg (fun g hg1 hg2=>h.ap g hg1 hg2)
 refine ⟨h.sb.low (G2.mono (by omega)),(G2.cell (p:=⟨w.heap.size+1,0,none⟩) (by simp only;omega)).trans h.r0,(G2.cell (p:=⟨w.heap.size+1,1,none⟩) (by simp only;omega)).trans h.r1,(G2.frozen (p:=⟨w.heap.size+1,0,none⟩) (by simp only;omega)).trans h.q0,(G2.frozen (p:=⟨w.heap.size+1,1,none⟩) (by simp only;omega)).trans h.q1,(World.cell?_setCell_other _ _ _ _ (by simp)).trans c0,World.cell?_setCell_same _ _ _ c1,by rw [World.frozen?_setCell];exact f0,by rw [World.frozen?_setCell];exact f1,
   ownsRow_setCell_below (a:=⟨w.heap.size+1+1,1,none⟩) o1 (by simp only;omega) _,ownsRow_setCell_below (a:=⟨w.heap.size+1+1,1,none⟩) ho (by simp only;omega) _,fun g h1 h4=>?_,by have:=G3.size;rw [World.size_setCell];omega⟩
 rcases hn with hn | hn
 · exact h.ap g h1 (hn ▸ h4)
 · have e1:=hn g h4
   have e2:=(h.o1.lt g h1).2
   simp at e1;omega
end
theorem Bkr.made {Q:Nat→BP} {m:MdlD} {p:Ph} {w:World} (h:Mod Q w m p) :
   Bkr m p 0 0 (.slice none 0 0) (.slice none 0 0) w (((w.alloc (.cells #[.string m.nm,.slice p.a1 m.vars.length p.c1,.slice p.a2 m.evs.length p.c2,.slice p.a3 m.regs.length p.c3,.slice p.a4 m.vers.length p.c4,.slice p.a5 m.trns.length p.c5,.string m.nm,.slice p.a1 m.vars.length p.c1,.slice p.a2 m.evs.length p.c2,.slice p.a3 m.regs.length p.c3,.slice p.a4 m.vers.length p.c4,.slice p.a5 m.trns.length p.c5] 48)).alloc (.cells #[.slice none 0 0,.slice none 0 0] 62)).alloc (.cells #[.slice none 0 0,.slice none 0 0] 62)):=by
 have hs:=Sb.made h
 have e2:=World.alloc_heap_new (w.alloc (.cells #[.string m.nm,.slice p.a1 m.vars.length p.c1,.slice p.a2 m.evs.length p.c2,.slice p.a3 m.regs.length p.c3,.slice p.a4 m.vers.length p.c4,.slice p.a5 m.trns.length p.c5,.string m.nm,.slice p.a1 m.vars.length p.c1,.slice p.a2 m.evs.length p.c2,.slice p.a3 m.regs.length p.c3,.slice p.a4 m.vers.length p.c4,.slice p.a5 m.trns.length p.c5] 48)) (.cells #[.slice none 0 0,.slice none 0 0] 62)
 have e3:=World.alloc_heap_new ((w.alloc (.cells #[.string m.nm,.slice p.a1 m.vars.length p.c1,.slice p.a2 m.evs.length p.c2,.slice p.a3 m.regs.length p.c3,.slice p.a4 m.vers.length p.c4,.slice p.a5 m.trns.length p.c5,.string m.nm,.slice p.a1 m.vars.length p.c1,.slice p.a2 m.evs.length p.c2,.slice p.a3 m.regs.length p.c3,.slice p.a4 m.vers.length p.c4,.slice p.a5 m.trns.length p.c5] 48)).alloc (.cells #[.slice none 0 0,.slice none 0 0] 62)) (.cells #[.slice none 0 0,.slice none 0 0] 62)
 rw [show (w.alloc (.cells #[.string m.nm,.slice p.a1 m.vars.length p.c1,.slice p.a2 m.evs.length p.c2,.slice p.a3 m.regs.length p.c3,.slice p.a4 m.vers.length p.c4,.slice p.a5 m.trns.length p.c5,.string m.nm,.slice p.a1 m.vars.length p.c1,.slice p.a2 m.evs.length p.c2,.slice p.a3 m.regs.length p.c3,.slice p.a4 m.vers.length p.c4,.slice p.a5 m.trns.length p.c5] 48)).heap.size=w.heap.size+1 by simp] at e2
 rw [show ((w.alloc (.cells #[.string m.nm,.slice p.a1 m.vars.length p.c1,.slice p.a2 m.evs.length p.c2,.slice p.a3 m.regs.length p.c3,.slice p.a4 m.vers.length p.c4,.slice p.a5 m.trns.length p.c5,.string m.nm,.slice p.a1 m.vars.length p.c1,.slice p.a2 m.evs.length p.c2,.slice p.a3 m.regs.length p.c3,.slice p.a4 m.vers.length p.c4,.slice p.a5 m.trns.length p.c5] 48)).alloc (.cells #[.slice none 0 0,.slice none 0 0] 62)).heap.size=w.heap.size+1+1 by simp] at e3
 have f2:=((below_al1 ((w.alloc (.cells #[.string m.nm,.slice p.a1 m.vars.length p.c1,.slice p.a2 m.evs.length p.c2,.slice p.a3 m.regs.length p.c3,.slice p.a4 m.vers.length p.c4,.slice p.a5 m.trns.length p.c5,.string m.nm,.slice p.a1 m.vars.length p.c1,.slice p.a2 m.evs.length p.c2,.slice p.a3 m.regs.length p.c3,.slice p.a4 m.vers.length p.c4,.slice p.a5 m.trns.length p.c5] 48)).alloc (.cells #[.slice none 0 0,.slice none 0 0] 62)) (.cells #[.slice none 0 0,.slice none 0 0] 62)).block (w.heap.size+1) (by simp)).trans e2
 exact ⟨(hs.below (below_al1 _ _)).below (below_al1 _ _),cell_blk f2 0,cell_blk f2 1,frz_rc f2 0,frz_rc f2 1,cell_blk e3 0,cell_blk e3 1,frz_rc e3 0,frz_rc e3 1,World.ownsRow_nil _ _ _ _,World.ownsRow_nil _ _ _ _,fun g hg=>(by cases hg),by simp⟩
set_option maxRecDepth 100000 in
set_option maxHeartbeats 8000000 in
theorem sblank_any {Q:Nat→BP} (m:MdlD) (p:Ph) (w:World) (h:Mod Q w m p) (hrl:m.regs.length≤1000) :
   Calls Tryz.prog 41 #[stV m p] w (RefC (List.replicate m.regs.length (-1)) (List.replicate m.regs.length (-1)) w):=by
 obtain ⟨iI,hiI,zI0,zI1,zI2⟩:=info_parts info_Num
 have HK:=Lib.hid (Bkr.made h)
 have HRp:Hid (∀ k:Nat,List.replicate k (-1:Int) ++ [-1]=List.replicate (k+1) (-1)):=Lib.hid fun k=>List.replicate_succ'.symm
 unfold RefC
 unfold stV at *
 clear h
 go_enter Tryz.func41,Tryz.ntmps41
 go_upto_region 2 with fail
 generalize (((w.alloc (.cells #[.string m.nm,.slice p.a1 m.vars.length p.c1,.slice p.a2 m.evs.length p.c2,.slice p.a3 m.regs.length p.c3,.slice p.a4 m.vers.length p.c4,.slice p.a5 m.trns.length p.c5,.string m.nm,.slice p.a1 m.vars.length p.c1,.slice p.a2 m.evs.length p.c2,.slice p.a3 m.regs.length p.c3,.slice p.a4 m.vers.length p.c4,.slice p.a5 m.trns.length p.c5] 48)).alloc (.cells #[.slice none 0 0,.slice none 0 0] 62)).alloc (.cells #[.slice none 0 0,.slice none 0 0] 62))=W3 at *
 go_wp2_with fail
 go_loopw [4] (fun i wr=>∃ k:Nat,k≤m.regs.length∧i=.int .i64 k∧∃ v1 v2,Bkr m p k k v1 v2 w wr) (fun i _=>m.regs.length - (intOf i).toNat)
 case atStart=>exact ⟨0,by omega,rfl,_,_,HK.out⟩
 case round =>
  obtain ⟨wo,rfl⟩:∃ wo:World,wo=wr:=⟨_,rfl⟩
  obtain ⟨k,hk,rfl,v1,v2,hb⟩:=hrel
  have HBo:=Lib.hid hb
  obtain ⟨a1,c1,rfl⟩:=ownsRow_slice hb.o1
  obtain ⟨a2,c2,rfl⟩:=ownsRow_slice hb.o2
  clear hb HK
  obtain ⟨_,r0,r1,q0,q1,p0,p1,f0,f1,_,_,_,hz⟩:=HBo.out
  obtain ⟨x0,x1,x2,x3,x4,x5,_⟩:=HBo.out.sb.mb.box
  by_cases hlt:k<m.regs.length
  · have hI:(k:Int)<(m.regs.length:Int):=by omega
    go_upto_region 6 with (at_builtin;refine wpList_append_row _ rfl _ _ 29 rfl 3 (w.heap.size+3) iI (.int .i64 0) Tryz.underlying29 hiI zI0 zI1 zI2 rfl _ (List.replicate k (-1)) rfl (by rw [List.length_replicate];exact HBo.out.o1.alloc _) _ [-1] rfl (row1 _ _ _) (by simp;omega) (by simp;omega) ?_;intro v4 w4 hown4 hgrow4 hnxt4;rw [HRp.out,List.length_replicate] at hown4;have HB4:=Lib.hid (HBo.out.push1 hgrow4 hown4 hnxt4);have t0:=(((Below.refl _ _).alloc hz _).grown hgrow4 (by simp;omega) (fun q hq=>(HBo.out.o1.lt q hq).1):Below (w.heap.size+3) wo w4);have s0:=(t0.cell (p:=⟨w.heap.size+1+1,0,none⟩) (by simp only;omega)).trans p0;have s1:=(t0.frozen (p:=⟨w.heap.size+1+1,0,none⟩) (by simp only;omega)).trans f0;obtain ⟨a4,c4,rfl⟩:=ownsRow_slice hown4;clear t0 hown4 hgrow4 hnxt4)
    generalize w4.setCell ⟨w.heap.size+1+1,0,none⟩ (.slice a4 (k+1) c4)=W5 at *
    clear x0 x1 x2 x3 x4 x5 r0 r1 q0 q1 p0 p1 f0 f1 s0 s1 hz HBo
    obtain ⟨_,r0,r1,q0,q1,p0,p1,f0,f1,_,_,_,hz⟩:=HB4.out
    go_wp2_with (at_builtin;refine wpList_append_row _ rfl _ _ 29 rfl 3 (w.heap.size+3) iI (.int .i64 0) Tryz.underlying29 hiI zI0 zI1 zI2 rfl _ (List.replicate k (-1)) rfl (by rw [List.length_replicate];exact HB4.out.o2.alloc _) _ [-1] rfl (row1 _ _ _) (by simp;omega) (by simp;omega) ?_;intro v6 w6 hown6 hgrow6 hnxt6;rw [HRp.out,List.length_replicate] at hown6;have HB6:=Lib.hid (HB4.out.push2 hgrow6 hown6 hnxt6);have t0:=(((Below.refl _ _).alloc hz _).grown hgrow6 (by simp;omega) (fun q hq=>(HB4.out.o2.lt q hq).1):Below (w.heap.size+3) W5 w6);have s0:=(t0.cell (p:=⟨w.heap.size+1+1,1,none⟩) (by simp only;omega)).trans p1;have s1:=(t0.frozen (p:=⟨w.heap.size+1+1,1,none⟩) (by simp only;omega)).trans f1;obtain ⟨a6,c6,rfl⟩:=ownsRow_slice hown6;clear t0 hown6 hgrow6 hnxt6)
    go_roundw
    case rel=>exact ⟨k+1,by omega,by go_num,_,_,HB6.out⟩
    case measure=>simp [intOf] <;> omega
  · obtain rfl:k=m.regs.length:=by omega
    go_wp2_with fail
    have k1:=(ownsRow_setCell_below (a:=⟨w.heap.size+1,1,none⟩) (ownsRow_setCell_below (a:=⟨w.heap.size+1,0,none⟩) HBo.out.o1 (by simp) (.slice a1 m.regs.length c1)) (by simp) (.slice a2 m.regs.length c2)).mono (show w.heap.size≤w.heap.size+3 by omega)
    have k2:=(ownsRow_setCell_below (a:=⟨w.heap.size+1,1,none⟩) (ownsRow_setCell_below (a:=⟨w.heap.size+1,0,none⟩) HBo.out.o2 (by simp) (.slice a1 m.regs.length c1)) (by simp) (.slice a2 m.regs.length c2)).mono (show w.heap.size≤w.heap.size+3 by omega)
    have kb:=(HBo.out.sb.mb.bel.setCell (p:=⟨w.heap.size+1,0,none⟩) (by simp) (.slice a1 m.regs.length c1)).setCell (p:=⟨w.heap.size+1,1,none⟩) (by simp) (.slice a2 m.regs.length c2)
    refine bodyPost_ret (v:=.agg #[.slice a1 m.regs.length c1,.slice a2 m.regs.length c2]) (by simp [results,Tryz.results41,go_sem,r0,r1]) rfl ⟨_,_,rfl,by rw [List.length_replicate];exact k1,by rw [List.length_replicate];exact k2,kb⟩
end Go.Proofs
