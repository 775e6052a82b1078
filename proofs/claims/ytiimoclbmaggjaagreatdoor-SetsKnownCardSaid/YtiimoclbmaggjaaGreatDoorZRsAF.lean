/- Walks: the document's sets: Home, Entries. -/
import Derived.Test.YtiimoclbmaggjaaGreatDoorZSgTV
import Derived.Test.YtiimoclbmaggjaaGreatDoorZSgXY
namespace Go.Proofs
open Go.RowKit Go.Lx Go.Md Go.Shelf Go.BigFrame Go.Rgi
open Lib(hid)
open Go.Proofs.Tryz
set_option maxRecDepth 100000
set_option maxHeartbeats 0
set_option linter.unusedVariables false
theorem zec {m:MdlD} (h0:riM m=(0,0,0)) (v:Int):(chainM m v).length<=64:=by
 cases hv:hasV m v with
 | false=>unfold chainM;rw [hv];simp
 | true =>
  obtain ⟨k,rfl,hk⟩:=zN hv;rw [jH h0 hk,<- (yp h0 hk).1];exact (yp h0 hk).2.1
theorem flt_snoc {P:Int->Bool} {C:List Int} {k:Nat} (hk:k<C.length):(C.take (k+1)).filter P=(C.take k).filter P ++ (if P C[k] then [C[k]] else []):=by
 rw [List.take_succ_eq_append_getElem hk,List.filter_append]
 cases h:P C[k] <;> simp [h]
theorem flt_le (P:Int->Bool) (C:List Int) (k:Nat):((C.take k).filter P).length<=C.length:=by
 have h1:=List.length_filter_le P (C.take k);have h2:(C.take k).length<=C.length:=by rw [List.length_take];omega
 omega
theorem ja {m:MdlD} {la ll:List Int} (h0:riM m=(0,0,0)) (h:fit2 m la ll=true):Fit m la/\Fit m ll:=by
 unfold fit2 fit1 at h;simp only [Bool.and_eq_true,beq_iff_eq] at h;exact ⟨⟨h0,h.1.1,h.1.2⟩,⟨h0,h.2.1,h.2.2⟩⟩
theorem jb {B N:Nat} {a w wx wy:World} {v:Value} {T:TypeId} {n:Nat} {xs:List Value} (h:Below B a w) (hN:B<=N) (ho:w.ownsRow N T 1 v n xs) (g1:Bl w wx) (hz:B<=w.heap.size) (g:wx.grownBy wy v.ownBlock):Below B a wy :=
 (h.trans (g1.mono hz)).grown g (Nat.le_trans hz g1.size) fun q hq=>Nat.le_trans hN (ho.lt q hq).1
theorem zbQ {Q:Nat->BP} (m:MdlD) (p:Ph) (l:List Int) (lv:Value) (w:World) (h:Mod Q w m p) (h0:riM m=(0,0,0)) (hr:RowIn w lv l) (hl:l.length<=100000) (hvl:m.zc.length<=1000) (hrl:m.zb.length<=100000) :
   Calls prog 139 #[stV m p,lv] w fun e w'=>e=.returned (.int .i64 (homeL m l))/\Bl w w':=by
 have HB:=hid (Sb.made h);have CM:=hid (fun wx (g:Sb m p w.heap.size w wx)=>zba m p l lv wx g.mb.mod h0 (hr.zf g.mb.bel) hl hvl hrl)
 have HE:Hid (homeL m l=if l.length=0 then -1 else comR m l):=hid (by
   cases l with
   | nil=>rfl
   | cons a t=>rw [if_neg (by simp)];exact homeL_eq h0 a t)
 obtain ⟨a,c,rfl,hc,_⟩:=hr.len;unfold ixV at CM;unfold stV mdV at *;generalize homeL m l=X at *;obtain ⟨n,hn⟩:=ex2 l.length;rw [hn] at hl hc CM HE |-;clear h h0 hr hn
 by_cases hz:n=0
 . have hd:((n:Int) == 0)=true:=by subst hz;rfl
   have hX:Hid (X=-1):=hid (by rw [HE.o,if_pos hz]);clear HE hz;go_enter func139,ntmps139;go_wp2_with fail;go_ret;exact ⟨by rw [hX.o];first | done | rfl,HB.o.mb.bel⟩
 . have hd:((n:Int) == 0)=false:=by simp only [beq_eq_false_iff_ne,ne_eq];omega
   have hX:Hid (X=comR m l):=hid (by rw [HE.o,if_neg hz]);clear HE hz;go_enter func139,ntmps139;obtain ⟨y0,y1,y2,y3,y4,y5⟩:=HB.o.y;go_wp2_with fail;(with_reducible refine (CM.o _ HB.o).mono ?_);rintro e w2 ⟨rfl,g2⟩;have HB2:=hid (HB.o.zf g2);clear y0 y1 y2 y3 y4 y5 HB g2;go_wp2_with fail;go_ret;exact ⟨by rw [hX.o];first | done | rfl,HB2.o.mb.bel⟩
theorem zcm {Q:Nat->BP} (m:MdlD) (p:Ph) (r en:Int) (w:World) (h:Mod Q w m p) (h0:riM m=(0,0,0)) (hvl:m.zc.length<=1000) (hrl:m.zb.length<=100000) :
   Calls prog 142 #[stV m p,.int .i64 r,.int .i64 en] w (RowP (entM m r en) w):=by
 obtain ⟨iI,hiI,zI0,zI1,zI2⟩:=info_parts zS;unfold RowP;have HB:=hid (Sb.made h);have IN:=hid (fun wx (g:Sb m p w.heap.size w wx) (v:Int)=>kE m p v r wx g.mb.mod h0 (by omega) (by omega));have CH:=hid (fun wx (g:Sb m p w.heap.size w wx)=>qU m p en wx g.mb.mod h0 hvl hrl);have VX:=hid (fun wx (g:Sb m p w.heap.size w wx)=>yt m p en wx g.mb.mod (by omega));have HE:Hid (∀ b st,inM m en r=b->stands m en=st->entM m r en=if b then (chainM m en).filter (fun v=>inM m v r) ++ (if st then [en] else []) else []):=hid fun b st hb hs=>by unfold entM;rw [hb,hs]
 have hCl:=zec h0 en;unfold RowP at CH;unfold ixV at IN CH;unfold stV mdV at *;generalize entM m r en=X at *;generalize chainM m en=C at *;obtain ⟨b,hb⟩:=ex2 (inM m en r);obtain ⟨st,hst⟩:=ex2 (stands m en);have HX:=hid (HE.o b st hb hst);have INe:=hid (fun wx g=>IN.o wx g en);rw [hb] at INe;rw [hst] at VX;clear h h0 hb hst HE;go_enter func142,ntmps142;obtain ⟨y0,y1,y2,y3,y4,y5⟩:=HB.o.y;go_wp2_with fail;(with_reducible refine (INe.o _ HB.o).mono ?_);rintro e w2 ⟨rfl,g2⟩;have HB2:=hid (HB.o.zf g2);clear y0 y1 y2 y3 y4 y5 HB g2 INe;obtain ⟨y0,y1,y2,y3,y4,y5⟩:=HB2.o.y
 cases b
 . have hX:Hid (X=[]):=hid (HX.o.trans (if_neg (by decide)))
   go_wp2_with fail;go_ret;rw [hX.o];exact ⟨_,rfl,World.ownsRow_nil _ _ _ _,HB2.o.mb.bel⟩
 have hX:Hid (X=C.filter (fun v=>inM m v r) ++ (if st then [en] else [])):=hid (HX.o.trans (if_pos rfl));clear HX;go_wp2_with fail;(with_reducible refine (CH.o _ HB2.o).mono ?_);rintro e w3 ⟨v3,rfl,o3,g3⟩;have HB3:=hid (HB2.o.zf g3);have R3:=hid (RowIn.own o3);obtain ⟨a,c,rfl,hc,_⟩:=R3.o.len;have HR:=hid (fun (wx:World) (g:Bl w3 wx)=>(R3.o.zf g).len);have hw3:w.heap.size<=w3.heap.size:=HB3.o.mb.bel.size;clear y0 y1 y2 y3 y4 y5 HB2 o3 g3 CH R3;obtain ⟨n,hn⟩:=ex2 C.length;have HN:=hid hn;rw [hn] at hCl hc |-;clear hn;go_wp2_with fail
 go_loopw [7,9] (fun o i wr=>∃ k:Nat,k<=n/\i=.int .i64 k/\Bl w3 wr/\wr.ownsRow w3.heap.size 3 1 o ((C.take k).filter fun v=>inM m v r).length (nums ((C.take k).filter fun v=>inM m v r))) (fun _ i _=>n - (intOf i).toNat)
 case atStart=>exact ⟨0,by omega,rfl,Below.refl _ _,World.ownsRow_nil _ _ _ _⟩
 case round =>
  obtain ⟨wo,rfl⟩:=ex1 wr;obtain ⟨k,hk,rfl,hb,ho⟩:=hrel;have HBo:=hid hb;have HSo:=hid (HB3.o.zf hb);have HO:=hid ho;have hz5:w3.heap.size<=wo.heap.size:=hb.size;have hln:((C.take k).filter fun v=>inM m v r).length<=64:=by have:=flt_le (fun v=>inM m v r) C k;have:=HN.o;omega
  clear hb ho
  by_cases hlt:k<n
  . have hkl:k<C.length:=by rw [HN.o];exact hlt
    obtain ⟨a',c',e,_,q⟩:=HR.o wo HBo.o;obtain ⟨b1,o1,ea,hbl,hcl⟩:=q k hkl;simp only [Value.slice.injEq] at e;obtain ⟨rfl,e',rfl⟩:=e;clear e';subst ea;have hI:(k:Int)<(n:Int):=by omega
    have hI0:(0:Int)<=(k:Int):=by omega
    have hS:=flt_snoc (P:=fun v=>inM m v r) hkl;obtain ⟨x,hx⟩:=ex2 (C[k]);rw [hx] at hcl hS;have INx:=hid (fun wx (g:Bl wo wx)=>IN.o wx (HSo.o.zf g) x);obtain ⟨b,hb⟩:=ex2 (inM m x r);rw [hb] at INx;have hS2:=hid hS;have HSS:Hid (∀ W',Bl wo W'->(W'.cell? ⟨w.heap.size,6,none⟩=some (.string m.nm)/\W'.cell? ⟨w.heap.size,7,none⟩=some (.slice p.a1 m.vars.length p.c1)/\W'.cell? ⟨w.heap.size,8,none⟩=some (.slice p.a2 m.za.length p.c2)/\W'.cell? ⟨w.heap.size,9,none⟩=some (.slice p.a3 m.zb.length p.c3)/\W'.cell? ⟨w.heap.size,10,none⟩=some (.slice p.a4 m.zc.length p.c4)/\W'.cell? ⟨w.heap.size,11,none⟩=some (.slice p.a5 m.ze.length p.c5))/\W'.cell? ⟨b1,o1+k,none⟩=some (.int .i64 x)):=hid fun W' g=>⟨(HSo.o.zf g).y,(g.cell (p:=⟨b1,o1+k,none⟩) hbl).trans hcl⟩;have hB0:Bl wo wo:=Below.refl _ _;clear q hx hS hcl IN HR;go_wp2_with fail;refine wp_region_any (by kernel_rfl) ?_;change wpAny _ _ _ _ _ _ _ (World.drew _);refine hld HSS.o (hB0.drew) (fun hHeld=>?_);refine tk 0 rfl ?_;refine tk 1 rfl ?_;refine tk 2 rfl ?_;refine tk 3 rfl ?_;refine tk 4 rfl ?_;refine tk 5 rfl ?_;refine tk 6 rfl ?_;refine rd1 7 (fun K hK=>?_);(go_simp;(with_reducible refine (INx.o _ (by first | assumption | exact hB0.drew)).mono ?_);rintro e w4 ⟨rfl,hb4⟩;have hB4:=zi (by first | assumption | exact hB0.drew) hb4;go_wp2_with fail);refine nx hK ?_ (fun hH1=>?_);(first | exact HSS.o _ (by assumption) | exact HSS.o _ hB0.drew);clear hK K hHeld;refine dn ?_;rotate_left
    all_goals
      have hB5:Bl wo w4:=hB4;have hcl5:=(HSS.o w4 hB5).2;have hz4:wo.heap.size<=w4.heap.size:=hB5.size;have HO4:=hid (zY HO.o hB5)
      cases b
      . have hS3:Hid ((C.take (k+1)).filter (fun v=>inM m v r)=(C.take k).filter fun v=>inM m v r):=hid (by rw [hS2.o,hb];simp)
        clear hS2 hb;go_wp2_with fail;go_roundw
        case rel=>exact ⟨k+1,by omega,by go_num,zi HBo.o hB5,by rw [hS3.o];exact HO4.o⟩
        case measure=>simp [intOf] <;> omega
      . have hS3:Hid ((C.take (k+1)).filter (fun v=>inM m v r)=((C.take k).filter fun v=>inM m v r) ++ [x]):=hid (by rw [hS2.o,hb];simp)
        clear hS2 hb;go_wp2_with (at_builtin;refine zn _ rfl _ _ 31 rfl 3 w3.heap.size iI (.int .i64 0) underlying31 hiI zI0 zI1 zI2 rfl _ ((C.take k).filter fun v=>inM m v r) rfl (HO4.o.alloc _) _ [x] rfl (row1 _ _ _) (by simp;omega) (by simp;omega) ?_;intro v5 w5 hown5 hgrow5 hnxt5);have HB5:=hid (jb (zi HBo.o hB5) (Nat.le_refl _) HO4.o (zg _ _) (by omega) hgrow5);go_roundw
        case rel=>exact ⟨k+1,by omega,by go_num,HB5.o,by rw [hS3.o];exact hown5⟩
        case measure=>simp [intOf] <;> omega
  . obtain rfl:k=n:=by omega
    have hT:C.take k=C:=by rw [<- HN.o,List.take_length]
    rw [hT] at HO hln;clear hT HR IN;obtain ⟨x0,x1,x2,x3,x4,x5,_⟩:=HSo.o.mb.box;obtain ⟨y0,y1,y2,y3,y4,y5⟩:=HSo.o.y;go_wp2_with fail;(with_reducible refine (VX.o _ HSo.o).mono ?_);rintro e w4 ⟨rfl,g4⟩;have HO4:=hid (zY HO.o g4);have hB4:=zi HBo.o g4;have hz4:wo.heap.size<=w4.heap.size:=g4.size;have HBw:=hid (zi HSo.o.mb.bel g4);generalize (C.filter fun v=>inM m v r)=D at *
    cases st
    . have hX2:Hid (X=D):=hid (hX.o.trans (by simp))
      go_wp2_with fail;go_ret;rw [hX2.o];exact ⟨_,rfl,HO4.o.mono hw3,HBw.o⟩
    . have hX2:Hid (X=D ++ [en]):=hid (hX.o.trans (by simp))
      clear x0 x1 x2 x3 x4 x5 y0 y1 y2 y3 y4 y5 g4;go_wp2_with (at_builtin;refine zn _ rfl _ _ 31 rfl 3 w3.heap.size iI (.int .i64 0) underlying31 hiI zI0 zI1 zI2 rfl _ D rfl (HO4.o.alloc _) _ [en] rfl (row1 _ _ _) (by simp;omega) (by simp;omega) ?_;intro v5 w5 hown5 hgrow5 hnxt5);have HB5:=hid (jb hB4 (Nat.le_refl _) HO4.o (zg _ _) (by omega) hgrow5);go_ret;rw [hX2.o];exact ⟨_,rfl,hown5.mono hw3,HB3.o.mb.bel.trans (HB5.o.mono hw3)⟩
def exQ (m:MdlD) (c:List Int) (f:Nat) (R:List Int) (k:Nat):List Int:=(R.take k).flatMap (exF m c f)
theorem exQ_succ (m:MdlD) (c:List Int) (f:Nat) (R:List Int) {k:Nat} (hk:k<R.length):exQ m c f R (k+1)=exQ m c f R k ++ exF m c f R[k]:=by
 unfold exQ;rw [List.take_succ_eq_append_getElem hk,List.flatMap_append];simp
theorem exQ_all (m:MdlD) (c:List Int) (f:Nat) (R:List Int):exQ m c f R R.length=R.flatMap (exF m c f):=by unfold exQ;rw [List.take_length]
theorem exF_len {m:MdlD} {c:List Int} (F:Fit m c) {f r:Nat} (hr:r<m.zb.length):(exF m c f r).length<=m.zc.length :=
 zc6 _ _ (zaJ F f r hr) fun x hx=>by
   obtain ⟨k,v,e,hk,_⟩:=zc8 F f r hr x hx;exact ⟨k,e,hk⟩
theorem zdk {g:Int->List Int} {N:Nat}:∀ (R:List Int),(∀ q ∈ R,(g q).length<=N)->(R.flatMap g).length<=R.length * N
 | [],_=>by simp
 | q :: t,h=>by
   have h1:=h q (by simp);have h2:=zdk t fun x hx=>h x (by simp [hx])
   rw [List.flatMap_cons,List.length_append,List.length_cons,Nat.succ_mul];omega
theorem zaR (m:MdlD) (p:Ph) (la ll:List Int) (a1 a2:Option Addr) (c1 c2:Nat) (F:Fit m la) (F2:Fit m ll) (hvl:m.zc.length<=100) (hrl:m.zb.length<=100):∀ (f r:Nat) (Q:Nat->BP) (w:World),r<m.zb.length->(∀ k:Nat,atL la r=k->65<=deM m k+f)->Mod Q w m p->RowIn w (.slice a1 la.length c1) la->RowIn w (.slice a2 ll.length c2) ll ->
   Calls prog 140 #[stV m p,.agg #[.slice a1 la.length c1,.slice a2 ll.length c2],.int .i64 (r:Int)] w (RowP (exF m la f r) w)
 | f,r,Q,w,hr,hf,h,h1,h2=>by
   obtain ⟨iI,hiI,zI0,zI1,zI2⟩:=info_parts zS;have h0:=F.h0;have hll:la.length<=100:=by rw [F.hl];omega
   have HC:=hid (Sc.made (ll:=ll) (a2:=a2) (c2:=c2) h h1);have FT:=hid (fun wx (g:Sc m p la ll a1 a2 c1 c2 w wx)=>yH m p la ll a1 a2 c1 c2 wx g.sb.mb.mod h0 g.r1 (h2.zf g.sb.mb.bel) (by rw [F.hl];omega) (by rw [F2.hl];omega) (by omega) (by omega));have hft:fit2 m la ll=true:=by unfold fit2 fit1;rw [F.hl,F.hf,F2.hl,F2.hf];simp
   rw [hft] at FT;have hrl2:r<la.length:=by rw [F.hl];exact hr
   obtain ⟨a1',c1',e,hc,q⟩:=h1.len;simp only [Value.slice.injEq] at e;obtain ⟨e1,_,e2⟩:=e;rw [<- e2] at hc;rw [<- e1] at q;obtain ⟨b1,o1,ea,hb1,hc1⟩:=q r hrl2;rw [<- zaD hrl2] at hc1;have hr0:(0:Int)<=(r:Int):=by omega
   have hrI:(r:Int)<(la.length:Int):=by omega
   have HK:Hid (∀ wx,Bl w wx->wx.cell? ⟨b1,o1+r,none⟩=some (.int .i64 (atL la r))):=hid fun wx g=>(g.cell (p:=⟨b1,o1+r,none⟩) hb1).trans hc1;unfold RowP
   by_cases hn:atL la r<0
   . have hnil:exF m la f r=[]:=by cases f <;> simp [exF,hn]
     rw [hnil];subst ea;unfold stV at *;generalize atL la r=y at HK hn;clear h h0 h1 h2 e1 e2 q hc1 hb1 hft hf hnil;go_enter func140,ntmps140;obtain ⟨x0,x1,x2,x3,x4,x5,_⟩:=HC.o.sb.mb.box;obtain ⟨y0,y1,y2,y3,y4,y5⟩:=HC.o.sb.y;have d0:=HC.o.d0;have d1:=HC.o.d1;go_wp2_with fail;(with_reducible refine (FT.o _ HC.o).mono ?_);rintro e w2 ⟨rfl,g2⟩;have HC2:=hid (HC.o.zf g2);clear x0 x1 x2 x3 x4 x5 y0 y1 y2 y3 y4 y5 d0 d1 HC g2;have d0:=HC2.o.d0;have hc2:=HK.o w2 HC2.o.sb.mb.bel;go_wp2_with fail;go_ret;exact ⟨_,rfl,World.ownsRow_nil _ _ _ _,HC2.o.sb.mb.bel⟩
   . obtain ⟨v,hv,e,hg,hd,ha⟩:=yD F.hl F.hf hr (by omega)
     obtain ⟨f,rfl⟩:∃ g,f=g+1:=⟨f - 1,by have:=hf v e;have:=zO F.h0 hv;omega⟩;have HXs:Hid (exF m la (f+1) r=(ownM m (v:Int)).flatMap (exF m la f) ++ [(v:Int)]):=hid (by rw [exF,if_neg hn,e]);have RG:=hid (fun wx (g:Sc m p la ll a1 a2 c1 c2 w wx)=>qq m p (v:Int) wx g.sb.mb.mod (by omega))
     have HSq:Hid (∀ q ∈ ownM m (v:Int),(exF m la f q).length<=100/\∀ wx,Sc m p la ll a1 a2 c1 c2 w wx->Calls prog 140 #[stV m p,.agg #[.slice a1 la.length c1,.slice a2 ll.length c2],.int .i64 q] wx (RowP (exF m la f q) wx)):=hid fun q hq=>by
       obtain ⟨j,hj,rfl,ho⟩:=yE hq;refine ⟨by have:=exF_len F (f:=f) hj;omega,fun wx g=>zaR m p la ll a1 a2 c1 c2 F F2 hvl hrl f j _ wx hj (fun k hk=>?_) g.sb.mb.mod g.r1 (h2.zf g.sb.mb.bel)⟩;obtain ⟨y,hy,ey,gy,dy,_⟩:=yD F.hl F.hf hj (by omega);obtain rfl:k=y:=by omega
       have:=(qI F hj ho hv hy hk gy dy).2;have:=hf v e;omega
     have hLn:(ownM m (v:Int)).length<=100:=by have:=zV (isOwn (v:Int)) m.zb;have e:(ownM m (v:Int)).length<=m.zb.length:=this;omega
     have HLf:Hid (∀ k,(exQ m la f (ownM m (v:Int)) k).length<=10000):=hid fun k=>by
       have h1:=zdk (g:=exF m la f) (N:=100) ((ownM m (v:Int)).take k) fun q hq=>(HSq.o q (List.mem_of_mem_take hq)).1;have h2:((ownM m (v:Int)).take k).length<=100:=by rw [List.length_take];omega
       have h3:((ownM m (v:Int)).take k).length * 100<=100 * 100:=Nat.mul_le_mul_right _ h2;unfold exQ;omega
     unfold RowP at HSq RG;unfold ixV at RG;unfold stV mdV at *;generalize exF m la (f+1) r=X at *;rw [e] at HK;have HQs:=hid (fun (k:Nat) (hk:k<(ownM m (v:Int)).length)=>exQ_succ m la f (ownM m (v:Int)) hk);have HQa:=hid (exQ_all m la f (ownM m (v:Int)));have HQ0:Hid (exQ m la f (ownM m (v:Int)) 0=[]):=hid (by unfold exQ;simp);generalize ownM m (v:Int)=R at *;have hv0:¬ ((v:Int)<0):=by omega
     subst ea;clear h h0 h1 h2 e1 e2 q hc1 hb1 hft hf hn hg hd ha F F2 e;go_enter func140,ntmps140;obtain ⟨x0,x1,x2,x3,x4,x5,_⟩:=HC.o.sb.mb.box;obtain ⟨y0,y1,y2,y3,y4,y5⟩:=HC.o.sb.y;have d0:=HC.o.d0;have d1:=HC.o.d1;go_wp2_with fail;(with_reducible refine (FT.o _ HC.o).mono ?_);rintro e w2 ⟨rfl,g2⟩;have HC2:=hid (HC.o.zf g2);clear x0 x1 x2 x3 x4 x5 y0 y1 y2 y3 y4 y5 d0 d1 HC g2 FT;have d0:=HC2.o.d0;have hc2:=HK.o w2 HC2.o.sb.mb.bel;obtain ⟨y0,y1,y2,y3,y4,y5⟩:=HC2.o.sb.y;go_wp2_with fail;(with_reducible refine (RG.o _ HC2.o).mono ?_);rintro e w3 ⟨v3,rfl,o3,g3⟩;have HC3:=hid (HC2.o.zf g3);have R3:=hid (RowIn.own o3);obtain ⟨a,c,rfl,hcr,_⟩:=R3.o.len;have HR:=hid (fun (wx:World) (g:Bl w3 wx)=>(R3.o.zf g).len);have hw3:w.heap.size<=w3.heap.size:=HC3.o.sb.mb.bel.size;clear y0 y1 y2 y3 y4 y5 d0 hc2 HC2 o3 g3 RG R3 HK;obtain ⟨n,hn⟩:=ex2 R.length;have HN:=hid hn;rw [hn] at hLn hcr |-;clear hn;go_wp2_with fail
     go_loopw [7,10] (fun o i wr=>∃ k:Nat,k<=n/\i=.int .i64 k/\Bl w3 wr/\wr.ownsRow w3.heap.size 3 1 o (exQ m la f R k).length (nums (exQ m la f R k))) (fun _ i _=>n - (intOf i).toNat)
     case atStart=>exact ⟨0,by omega,rfl,Below.refl _ _,by rw [HQ0.o];exact World.ownsRow_nil _ _ _ _⟩
     case round =>
      obtain ⟨wo,rfl⟩:=ex1 wr;obtain ⟨k,hk,rfl,hb,ho⟩:=hrel;have HBo:=hid hb;have HSo:=hid (HC3.o.zf hb);have HO:=hid ho;have hz5:w3.heap.size<=wo.heap.size:=hb.size;have hln:=HLf.o k;clear hb ho HQ0
      by_cases hlt:k<n
      . have hkl:k<R.length:=by rw [HN.o];exact hlt
        obtain ⟨a',c',e,_,q⟩:=HR.o w3 (Below.refl _ _);obtain ⟨b2,o2,ea,hbl,hcl⟩:=q k hkl;simp only [Value.slice.injEq] at e;obtain ⟨rfl,e',rfl⟩:=e;clear e';subst ea;have hI:(k:Int)<(n:Int):=by omega
        have hI0:(0:Int)<=(k:Int):=by omega
        have hS:=HQs.o k hkl;have hQ:=HSq.o _ (List.getElem_mem hkl);obtain ⟨x,hx⟩:=ex2 (R[k]);rw [hx] at hcl hS hQ;have HS2:=hid hS;have hlx:=hQ.1;have HE:=hid (fun wx (g:Bl wo wx)=>hQ.2 wx (HSo.o.zf g))
        have HSS:Hid (∀ W',Bl w3 W'->(W'.cell? ⟨w.heap.size,0,none⟩=some (.string m.nm)/\W'.cell? ⟨w.heap.size,1,none⟩=some (.slice p.a1 m.vars.length p.c1)/\W'.cell? ⟨w.heap.size,2,none⟩=some (.slice p.a2 m.za.length p.c2)/\W'.cell? ⟨w.heap.size,3,none⟩=some (.slice p.a3 m.zb.length p.c3)/\W'.cell? ⟨w.heap.size,4,none⟩=some (.slice p.a4 m.zc.length p.c4)/\W'.cell? ⟨w.heap.size,5,none⟩=some (.slice p.a5 m.ze.length p.c5))/\(W'.cell? ⟨w.heap.size,6,none⟩=some (.string m.nm)/\W'.cell? ⟨w.heap.size,7,none⟩=some (.slice p.a1 m.vars.length p.c1)/\W'.cell? ⟨w.heap.size,8,none⟩=some (.slice p.a2 m.za.length p.c2)/\W'.cell? ⟨w.heap.size,9,none⟩=some (.slice p.a3 m.zb.length p.c3)/\W'.cell? ⟨w.heap.size,10,none⟩=some (.slice p.a4 m.zc.length p.c4)/\W'.cell? ⟨w.heap.size,11,none⟩=some (.slice p.a5 m.ze.length p.c5))/\W'.cell? ⟨w.heap.size+1,0,none⟩=some (.slice (some ⟨b1,o1,none⟩) la.length c1)/\W'.cell? ⟨w.heap.size+1,1,none⟩=some (.slice a2 ll.length c2)/\W'.cell? ⟨b2,o2+k,none⟩=some (.int .i64 x)):=hid fun W' g=>by
          have hh:=HC3.o.zf g;obtain ⟨x0,x1,x2,x3,x4,x5,_⟩:=hh.sb.mb.box;exact ⟨⟨x0,x1,x2,x3,x4,x5⟩,hh.sb.y,hh.d0,hh.d1,(g.cell (p:=⟨b2,o2+k,none⟩) hbl).trans hcl⟩
        have hB0:Bl wo wo:=Below.refl _ _;clear q hx hS hcl hQ HR HSq HQs HQa;generalize exF m la f x=E at *;go_wp2_with fail;refine wp_region_any (by kernel_rfl) ?_;change wpAny _ _ _ _ _ _ _ (World.drew _);refine hld HSS.o (HBo.o.drew) (fun hHeld=>?_);refine tk 0 rfl ?_;refine tk 1 rfl ?_;refine tk 2 rfl ?_;refine tk 3 rfl ?_;refine tk 4 rfl ?_;refine tk 5 rfl ?_;refine tk 6 rfl ?_;refine rd1 7 (fun K hK=>?_);(go_simp;(with_reducible refine (HE.o _ hB0.drew).mono ?_);rintro e w4 ⟨v4,rfl,o4,hb4⟩;have hT4:Bl wo w4:=hB0.drew.trans hb4;have hB4:=zi HBo.o hT4;have HO4:=hid (zY HO.o hT4);have R4:=hid (RowIn.own o4);clear o4 hb4;go_wp2_with fail);refine nx hK ?_ (fun hH1=>?_);(first | exact HSS.o _ hB7 | exact HSS.o _ hB4 | exact HSS.o _ HBo.o.drew);clear hK K hHeld;refine rd1 8 (fun K hK=>?_)
        ((refine kQ _ (by rfl) _ _ _ (by rfl) 3 w3.heap.size iI (.int .i64 0) underlying31 hiI zI0 zI1 zI2 (by rfl) _ (exQ m la f R k) (by rfl) HO4.o _ E (by rfl) R4.o (by omega) hB4.size ?_;intro v7 w7 hown7 hgrow7 hnx7;have hB7:Bl w3 w7:=Below.grown hB4 hgrow7 hB4.size (fun j hj=>(HO4.o.lt j hj).1)))
        refine nx hK ?_ (fun hH2=>?_);(first | exact HSS.o _ hB7 | exact HSS.o _ hB4 | exact HSS.o _ HBo.o.drew);clear hK K hH1;refine tk 9 rfl ?_;refine dn ?_;rotate_left
        all_goals
          go_wp2_with fail;go_roundw
          case rel=>exact ⟨k+1,by omega,by go_num,hB7,by rw [HS2.o];exact hown7⟩
          case measure=>simp [intOf] <;> omega
      . obtain rfl:k=n:=by omega
        rw [<- HN.o,HQa.o] at HO hln;clear HR HSq HQs HQa HSo;generalize R.flatMap (exF m la f)=D at *;go_wp2_with (at_builtin;refine zn _ rfl _ _ 31 rfl 3 w3.heap.size iI (.int .i64 0) underlying31 hiI zI0 zI1 zI2 rfl _ D rfl (HO.o.alloc _) _ [(v:Int)] rfl (row1 _ _ _) (by simp;omega) (by simp;omega) ?_;intro v5 w5 hown5 hgrow5 hnxt5);have HB5:=hid (jb HBo.o (Nat.le_refl _) HO.o (zg _ _) (by omega) hgrow5);go_ret;rw [HXs.o];exact ⟨_,rfl,hown5.mono hw3,HC3.o.sb.mb.bel.trans (HB5.o.mono hw3)⟩
 termination_by f=>f
def mayR (m:MdlD) (la ll:List Int) (v:Int):Nat:=if fit2 m la ll && stands m v then 0 else 2
def StepR (E:Nat) (ok:Bool) (la ll:List Int) (w:World) (e:Ending) (w':World):Prop:=Bl w w' /\
 ((E≠0/\e=.returned (.tuple #[.agg #[.slice none 0 0,.slice none 0 0],.int .i64 (E:Int)])) \/
  (E=0/\ok=false/\e=.returned (.tuple #[.agg #[.slice none 0 0,.slice none 0 0],.int .i64 4])) \/
  (E=0/\ok=true/\∃ a1 k1 a2 k2,e=.returned (.tuple #[.agg #[.slice a1 la.length k1,.slice a2 ll.length k2],.int .i64 0])/\RowIn w' (.slice a1 la.length k1) la/\RowIn w' (.slice a2 ll.length k2) ll))
structure Er (m:MdlD) (p:Ph) (la ll:List Int) (a1 a2:Option Addr) (c1 c2:Nat) (w wx:World):Prop where
 sc:Sc m p la ll a1 a2 c1 c2 w wx
 r0:wx.cell? ⟨w.heap.size+1+1,0,none⟩=some (.slice none 0 0)
 r1:wx.cell? ⟨w.heap.size+1+1,1,none⟩=some (.slice none 0 0)
 q0:wx.frozen? ⟨w.heap.size+1+1,0,none⟩=false
 q1:wx.frozen? ⟨w.heap.size+1+1,1,none⟩=false
 sz:w.heap.size+1+1<wx.heap.size
theorem Er.zf {m:MdlD} {p:Ph} {la ll:List Int} {a1 a2:Option Addr} {c1 c2:Nat} {w wx wy:World} (h:Er m p la ll a1 a2 c1 c2 w wx) (g:Bl wx wy):Er m p la ll a1 a2 c1 c2 w wy :=
 ⟨h.sc.zf g,(g.cell (p:=⟨w.heap.size+1+1,0,none⟩) h.sz).trans h.r0,(g.cell (p:=⟨w.heap.size+1+1,1,none⟩) h.sz).trans h.r1,(g.frozen (p:=⟨w.heap.size+1+1,0,none⟩) h.sz).trans h.q0,(g.frozen (p:=⟨w.heap.size+1+1,1,none⟩) h.sz).trans h.q1,Nat.lt_of_lt_of_le h.sz g.size⟩
theorem Er.made {Q:Nat->BP} {m:MdlD} {p:Ph} {la ll:List Int} {a1 a2:Option Addr} {c1 c2:Nat} {w:World} (h:Mod Q w m p) (h1:RowIn w (.slice a1 la.length c1) la) :
   Er m p la ll a1 a2 c1 c2 w (((w.alloc (.cells #[.string m.nm,.slice p.a1 m.vars.length p.c1,.slice p.a2 m.za.length p.c2,.slice p.a3 m.zb.length p.c3,.slice p.a4 m.zc.length p.c4,.slice p.a5 m.ze.length p.c5,.string m.nm,.slice p.a1 m.vars.length p.c1,.slice p.a2 m.za.length p.c2,.slice p.a3 m.zb.length p.c3,.slice p.a4 m.zc.length p.c4,.slice p.a5 m.ze.length p.c5] 168)).alloc (.cells #[.slice a1 la.length c1,.slice a2 ll.length c2] 150)).alloc (.cells #[.slice none 0 0,.slice none 0 0] 150)):=by
 have hs:=Sc.made (ll:=ll) (a2:=a2) (c2:=c2) h h1;have hz:((w.alloc (.cells #[.string m.nm,.slice p.a1 m.vars.length p.c1,.slice p.a2 m.za.length p.c2,.slice p.a3 m.zb.length p.c3,.slice p.a4 m.zc.length p.c4,.slice p.a5 m.ze.length p.c5,.string m.nm,.slice p.a1 m.vars.length p.c1,.slice p.a2 m.za.length p.c2,.slice p.a3 m.zb.length p.c3,.slice p.a4 m.zc.length p.c4,.slice p.a5 m.ze.length p.c5] 168)).alloc (.cells #[.slice a1 la.length c1,.slice a2 ll.length c2] 150)).heap.size=w.heap.size+1+1:=by simp
 have e:=World.alloc_heap_new ((w.alloc (.cells #[.string m.nm,.slice p.a1 m.vars.length p.c1,.slice p.a2 m.za.length p.c2,.slice p.a3 m.zb.length p.c3,.slice p.a4 m.zc.length p.c4,.slice p.a5 m.ze.length p.c5,.string m.nm,.slice p.a1 m.vars.length p.c1,.slice p.a2 m.za.length p.c2,.slice p.a3 m.zb.length p.c3,.slice p.a4 m.zc.length p.c4,.slice p.a5 m.ze.length p.c5] 168)).alloc (.cells #[.slice a1 la.length c1,.slice a2 ll.length c2] 150)) (.cells #[.slice none 0 0,.slice none 0 0] 150);rw [hz] at e;refine ⟨hs.zf (zg _ _),zh e 0,zh e 1,qx e 0,qx e 1,by simp⟩
theorem Er.low {m:MdlD} {p:Ph} {la ll:List Int} {a1 a2:Option Addr} {c1 c2:Nat} {w wx:World} (h:Er m p la ll a1 a2 c1 c2 w wx) (u v:Value):Bl w ((wx.setCell ⟨w.heap.size+1+1,0,none⟩ u).setCell ⟨w.heap.size+1+1,1,none⟩ v) :=
 (h.sc.sb.mb.bel.setCell (p:=⟨w.heap.size+1+1,0,none⟩) (by simp only;omega) u).setCell (p:=⟨w.heap.size+1+1,1,none⟩) (by simp only;omega) v
theorem RowIn.cells2 {wx:World} {v:Value} {l:List Int} {H:Nat} (h:RowIn wx v l) (u0 u1 y0 y1:Value) (h0:wx.cell? ⟨H,0,none⟩=some y0) (h1:wx.cell? ⟨H,1,none⟩=some y1) (k0:∀ x,y0≠.int .i64 x) (k1:∀ x,y1≠.int .i64 x):RowIn ((wx.setCell ⟨H,0,none⟩ u0).setCell ⟨H,1,none⟩ u1) v l:=by
 rcases h with ⟨a,c,rfl,rfl⟩ | ⟨b,off,c,rfl,hc,hb,hcs⟩
 . exact .inl ⟨a,c,rfl,rfl⟩
 . refine .inr ⟨b,off,c,rfl,hc,by simpa using hb,fun j u hj=>?_⟩
   have hx:∃ x,u=.int .i64 x:=by
     simp only [nums,List.getElem?_map,Option.map_eq_some_iff] at hj;obtain ⟨x,_,rfl⟩:=hj;exact ⟨x,rfl⟩
   obtain ⟨x,rfl⟩:=hx;have hcj:=hcs j _ hj;rw [yU] at hcj |-;have n0:(⟨b,off+j,none⟩:Addr)≠⟨H,0,none⟩:=fun e=>by rw [e,h0] at hcj;exact k0 x (Option.some.inj hcj)
   have n1:(⟨b,off+j,none⟩:Addr)≠⟨H,1,none⟩:=fun e=>by rw [e,h1] at hcj;exact k1 x (Option.some.inj hcj)
   rw [World.cell?_setCell_other _ _ _ _ n1.symm,World.cell?_setCell_other _ _ _ _ n0.symm];exact hcj
theorem zed {Q:Nat->BP} (m:MdlD) (p:Ph) (la ll:List Int) (a1 a2:Option Addr) (c1 c2:Nat) (v:Int) (w:World) (h:Mod Q w m p) (h0:riM m=(0,0,0)) (h1:RowIn w (.slice a1 la.length c1) la) (h2:RowIn w (.slice a2 ll.length c2) ll) (l1:la.length<=900000) (l2:ll.length<=900000) (hvl:m.zc.length<=1000) (hrl:m.zb.length<=1000) :
   Calls prog 148 #[stV m p,.agg #[.slice a1 la.length c1,.slice a2 ll.length c2],.int .i64 v] w (StepR (mayR m la ll v) (enterOk m la v) (la.set (rgA m v).toNat v) ll w):=by
 have HC:=hid (Er.made (ll:=ll) (a2:=a2) (c2:=c2) h h1);have FT:=hid (fun wx (g:Er m p la ll a1 a2 c1 c2 w wx)=>yH m p la ll a1 a2 c1 c2 wx g.sc.sb.mb.mod h0 g.sc.r1 (h2.zf g.sc.sb.mb.bel) (by omega) (by omega) (by omega) (by omega));have VX:=hid (fun wx (g:Er m p la ll a1 a2 c1 c2 w wx)=>yt m p v wx g.sc.sb.mb.mod (by omega));have HG:=hid (fun wx (g:Er m p la ll a1 a2 c1 c2 w wx)=>yG m p v wx g.sc.sb.mb.mod h0 (by omega));have IS:=hid (fun (F:Fit m la) wx (g:Er m p la ll a1 a2 c1 c2 w wx) (x:Int)=>j9 m p la ll a1 a2 c1 c2 x wx g.sc.sb.mb.mod h0 g.sc.r1 F.hl (by omega));have HF:=hid (fun hf:fit2 m la ll=true=>ja h0 hf);have R1:=hid (fun wx (g:Er m p la ll a1 a2 c1 c2 w wx)=>g.sc.r1);have R2:=hid (fun wx (g:Er m p la ll a1 a2 c1 c2 w wx)=>h2.zf g.sc.sb.mb.bel);have CH:=hid (fun wx (g:Er m p la ll a1 a2 c1 c2 w wx)=>qU m p v wx g.sc.sb.mb.mod h0 hvl (by omega));have HCl:=hid (zec h0 v);unfold RowP at CH;obtain ⟨fb,hfb⟩:=ex2 (fit2 m la ll);obtain ⟨sb,hsb⟩:=ex2 (stands m v);have HM:Hid (mayR m la ll v=if fb && sb then 0 else 2):=hid (by unfold mayR;rw [hfb,hsb]);rw [hfb] at FT HF;rw [hsb] at VX;have HSb:=hid hsb;have H0:=hid h0;generalize mayR m la ll v=ME at *;unfold ixV mdV at HG CH;unfold stV at *;clear h h0 h1 h2 hfb hsb;go_enter func148,ntmps148;go_upto_region 1 with fail;generalize (((w.alloc (.cells #[.string m.nm,.slice p.a1 m.vars.length p.c1,.slice p.a2 m.za.length p.c2,.slice p.a3 m.zb.length p.c3,.slice p.a4 m.zc.length p.c4,.slice p.a5 m.ze.length p.c5,.string m.nm,.slice p.a1 m.vars.length p.c1,.slice p.a2 m.za.length p.c2,.slice p.a3 m.zb.length p.c3,.slice p.a4 m.zc.length p.c4,.slice p.a5 m.ze.length p.c5] 168)).alloc (.cells #[.slice a1 la.length c1,.slice a2 ll.length c2] 150)).alloc (.cells #[.slice none 0 0,.slice none 0 0] 150))=W1 at *;obtain ⟨x0,x1,x2,x3,x4,x5,_⟩:=HC.o.sc.sb.mb.box;obtain ⟨y0,y1,y2,y3,y4,y5⟩:=HC.o.sc.sb.y;have d0:=HC.o.sc.d0;have d1:=HC.o.sc.d1;have r0:=HC.o.r0;have r1:=HC.o.r1;have q0:=HC.o.q0;have q1:=HC.o.q1
 cases fb
 . have hE:ME=2:=HM.o.trans (if_neg (by simp))
   go_wp2_with fail;(with_reducible refine (FT.o _ HC.o).mono ?_);rintro e w2 ⟨rfl,g2⟩;have HC2:=hid (HC.o.zf g2);clear x0 x1 x2 x3 x4 x5 y0 y1 y2 y3 y4 y5 d0 d1 r0 r1 q0 q1;obtain ⟨x0,x1,x2,x3,x4,x5,_⟩:=HC2.o.sc.sb.mb.box;obtain ⟨y0,y1,y2,y3,y4,y5⟩:=HC2.o.sc.sb.y;have d0:=HC2.o.sc.d0;have d1:=HC2.o.sc.d1;have r0:=HC2.o.r0;have r1:=HC2.o.r1;have q0:=HC2.o.q0;have q1:=HC2.o.q1;go_wp2_with fail;subst hE;refine bodyPost_ret (v:=.tuple #[.agg #[.slice none 0 0,.slice none 0 0],.int .i64 2]) (by simp [results,results148,go_sem,r0,r1]) rfl ⟨HC2.o.low _ _,.inl ⟨by decide,rfl⟩⟩
 go_wp2_with fail;(with_reducible refine (FT.o _ HC.o).mono ?_);rintro e w2 ⟨rfl,g2⟩;have HC2:=hid (HC.o.zf g2);clear x0 x1 x2 x3 x4 x5 y0 y1 y2 y3 y4 y5 d0 d1 r0 r1 q0 q1;obtain ⟨hF1,hF2⟩:=HF.o (by trivial);have HF1:=hid hF1;have HF2:=hid hF2;have ISf:=hid (IS.o hF1);clear hF1 hF2 HF HC FT g2 IS;obtain ⟨x0,x1,x2,x3,x4,x5,_⟩:=HC2.o.sc.sb.mb.box;obtain ⟨y0,y1,y2,y3,y4,y5⟩:=HC2.o.sc.sb.y;have d0:=HC2.o.sc.d0;have d1:=HC2.o.sc.d1;have r0:=HC2.o.r0;have r1:=HC2.o.r1;have q0:=HC2.o.q0;have q1:=HC2.o.q1
 cases sb
 . have hE:ME=2:=HM.o.trans (if_neg (by simp))
   go_wp2_with fail;(with_reducible refine (VX.o _ HC2.o).mono ?_);rintro e w3 ⟨rfl,g3⟩;have HC3:=hid (HC2.o.zf g3);clear x0 x1 x2 x3 x4 x5 y0 y1 y2 y3 y4 y5 d0 d1 r0 r1 q0 q1;obtain ⟨x0,x1,x2,x3,x4,x5,_⟩:=HC3.o.sc.sb.mb.box;obtain ⟨y0,y1,y2,y3,y4,y5⟩:=HC3.o.sc.sb.y;have d0:=HC3.o.sc.d0;have d1:=HC3.o.sc.d1;have r0:=HC3.o.r0;have r1:=HC3.o.r1;have q0:=HC3.o.q0;have q1:=HC3.o.q1;go_wp2_with fail;subst hE;refine bodyPost_ret (v:=.tuple #[.agg #[.slice none 0 0,.slice none 0 0],.int .i64 2]) (by simp [results,results148,go_sem,r0,r1]) rfl ⟨HC3.o.low _ _,.inl ⟨by decide,rfl⟩⟩
 have hE:ME=0:=HM.o.trans (if_pos rfl);subst hE;obtain ⟨k,hk,rfl,r,hr,er1,er2,_⟩:=zD H0.o HSb.o;have hrl1:r<la.length:=by rw [HF1.o.hl];exact hr
 have hrl2:r<ll.length:=by rw [HF2.o.hl];exact hr
 have hrL:(r:Int)<(la.length:Int):=by omega
 have hrL2:(r:Int)<(ll.length:Int):=by omega
 have hr0:(0:Int)<=(r:Int):=by omega
 rw [er2] at HG;have HRg:Hid ((rgA m (k:Int)).toNat=r):=hid (by rw [er1];rfl);have HRi:Hid (rgA m (k:Int)=r):=hid er1;clear er1 er2 HM;go_wp2_with fail;(with_reducible refine (VX.o _ HC2.o).mono ?_);rintro e w3 ⟨rfl,g3⟩;have HC3:=hid (HC2.o.zf g3);clear x0 x1 x2 x3 x4 x5 y0 y1 y2 y3 y4 y5 d0 d1 r0 r1 q0 q1;clear HC2 VX g3;obtain ⟨x0,x1,x2,x3,x4,x5,_⟩:=HC3.o.sc.sb.mb.box;obtain ⟨y0,y1,y2,y3,y4,y5⟩:=HC3.o.sc.sb.y;have d0:=HC3.o.sc.d0;have d1:=HC3.o.sc.d1;have r0:=HC3.o.r0;have r1:=HC3.o.r1;have q0:=HC3.o.q0;have q1:=HC3.o.q1;rw [HRg.o]
 have HEn:Hid (enterOk m la k=(decide (atL la r<0) && (chainM m (k:Int)).all (isA m la))):=hid (by
   unfold enterOk chainM;rw [HRi.o,zE hk,if_pos rfl,List.all_reverse])
 generalize enterOk m la (k:Int)=OK at *;generalize chainM m (k:Int)=C at *;go_wp2_with fail;(with_reducible refine (HG.o _ HC3.o).mono ?_);rintro e w4 ⟨rfl,g4⟩;have HC4:=hid (HC3.o.zf g4);clear x0 x1 x2 x3 x4 x5 y0 y1 y2 y3 y4 y5 d0 d1 r0 r1 q0 q1;clear HC3 HG g4;obtain ⟨a',c',e,hcap,q⟩:=(R1.o w4 HC4.o).len;obtain ⟨b1,o1,ea,hbl,hcl⟩:=q r hrl1;simp only [Value.slice.injEq] at e;obtain ⟨rfl,e',rfl⟩:=e;clear e';subst ea;rw [<- zaD hrl1] at hcl;obtain ⟨x0,x1,x2,x3,x4,x5,_⟩:=HC4.o.sc.sb.mb.box;obtain ⟨y0,y1,y2,y3,y4,y5⟩:=HC4.o.sc.sb.y;have d0:=HC4.o.sc.d0;have d1:=HC4.o.sc.d1;have r0:=HC4.o.r0;have r1:=HC4.o.r1;have q0:=HC4.o.q0;have q1:=HC4.o.q1;clear q;obtain ⟨y,hy⟩:∃ y,atL la (r:Int)=y:=⟨_,rfl⟩;rw [hy] at hcl HEn;clear hy
 by_cases hyp:0<=y
 . have hO:OK=false:=HEn.o.trans (by rw [decide_eq_false (by omega)];rfl)
   go_wp2_with fail;subst hO;refine bodyPost_ret (v:=.tuple #[.agg #[.slice none 0 0,.slice none 0 0],.int .i64 4]) (by simp [results,results148,go_sem,r0,r1]) rfl ⟨HC4.o.low _ _,.inr (.inl ⟨rfl,rfl,rfl⟩)⟩
 have hyd:decide (0<=y)=false:=decide_eq_false hyp;have hOK:Hid (OK=C.all (isA m la)):=hid (HEn.o.trans (by rw [decide_eq_true (by omega)];rfl));clear HEn;go_wp2_with fail;(with_reducible refine (CH.o _ HC4.o).mono ?_);rintro e w5 ⟨v5,rfl,o5,g5⟩;have HC5:=hid (HC4.o.zf g5);have R5:=hid (RowIn.own o5);obtain ⟨a,c,rfl,hcr,_⟩:=R5.o.len;have HR:=hid (fun (wx:World) (g:Bl w5 wx)=>(R5.o.zf g).len);clear x0 x1 x2 x3 x4 x5 y0 y1 y2 y3 y4 y5 d0 d1 r0 r1 q0 q1;clear HC4 o5 g5 CH R5 hcl hbl hyd;have hCl:=HCl.o;obtain ⟨n,hn⟩:=ex2 C.length;have HNn:=hid hn;rw [hn] at hCl hcr |-;clear hn;go_wp2_with fail
 go_loopw [10] (fun i wr=>∃ k:Nat,k<=n/\i=.int .i64 k/\Bl w5 wr/\∀ j (hj:j<C.length),j<k->isA m la C[j]=true) (fun i _=>n - (intOf i).toNat)
 case atStart=>exact ⟨0,by omega,rfl,Below.refl _ _,fun j _ hj=>by omega⟩
 case round =>
  obtain ⟨wo,rfl⟩:=ex1 wr;obtain ⟨i,hi,rfl,hb,hno⟩:=hrel;have HBo:=hid hb;have HCo:=hid (HC5.o.zf hb);have HNo:=hid hno;clear hb hno
  by_cases hlt:i<n
  . have hil:i<C.length:=by rw [HNn.o];exact hlt
    obtain ⟨a',c',e,_,q⟩:=HR.o wo HBo.o;obtain ⟨bx,ox,ea,hbl,hcl⟩:=q i hil;simp only [Value.slice.injEq] at e;obtain ⟨rfl,e',rfl⟩:=e;clear e';subst ea;have hI:(i:Int)<(n:Int):=by omega
    have hI0:(0:Int)<=(i:Int):=by omega
    have HS:Hid ((isA m la C[i]=true->∀ j (hj:j<C.length),j<i+1->isA m la C[j]=true)/\(isA m la C[i]=false->C.all (isA m la)=false)):=hid ⟨fun ht j hj hji=>by
      by_cases e:j=i
      . subst e;exact ht
      . exact HNo.o j hj (by omega),fun hf=>List.all_eq_false.2 ⟨C[i],List.getElem_mem hil,by rw [hf];decide⟩⟩
    obtain ⟨x,hx⟩:=ex2 (C[i]);rw [hx] at hcl HS;have ISx:=hid (fun wx (g:Bl wo wx)=>ISf.o wx (HCo.o.zf g) x);obtain ⟨ia,hia⟩:=ex2 (isA m la x);rw [hia] at ISx HS
    have HSS:Hid (∀ W',Bl wo W'->(W'.cell? ⟨w.heap.size,0,none⟩=some (.string m.nm)/\W'.cell? ⟨w.heap.size,1,none⟩=some (.slice p.a1 m.vars.length p.c1)/\W'.cell? ⟨w.heap.size,2,none⟩=some (.slice p.a2 m.za.length p.c2)/\W'.cell? ⟨w.heap.size,3,none⟩=some (.slice p.a3 m.zb.length p.c3)/\W'.cell? ⟨w.heap.size,4,none⟩=some (.slice p.a4 m.zc.length p.c4)/\W'.cell? ⟨w.heap.size,5,none⟩=some (.slice p.a5 m.ze.length p.c5))/\(W'.cell? ⟨w.heap.size,6,none⟩=some (.string m.nm)/\W'.cell? ⟨w.heap.size,7,none⟩=some (.slice p.a1 m.vars.length p.c1)/\W'.cell? ⟨w.heap.size,8,none⟩=some (.slice p.a2 m.za.length p.c2)/\W'.cell? ⟨w.heap.size,9,none⟩=some (.slice p.a3 m.zb.length p.c3)/\W'.cell? ⟨w.heap.size,10,none⟩=some (.slice p.a4 m.zc.length p.c4)/\W'.cell? ⟨w.heap.size,11,none⟩=some (.slice p.a5 m.ze.length p.c5))/\W'.cell? ⟨w.heap.size+1,0,none⟩=some (.slice (some ⟨b1,o1,none⟩) la.length c1)/\W'.cell? ⟨w.heap.size+1,1,none⟩=some (.slice a2 ll.length c2)/\W'.cell? ⟨bx,ox+i,none⟩=some (.int .i64 x)):=hid fun W' g=>by
      have hh:=HCo.o.zf g;obtain ⟨x0,x1,x2,x3,x4,x5,_⟩:=hh.sc.sb.mb.box;exact ⟨⟨x0,x1,x2,x3,x4,x5⟩,hh.sc.sb.y,hh.sc.d0,hh.sc.d1,(g.cell (p:=⟨bx,ox+i,none⟩) hbl).trans hcl⟩
    have hB0:Bl wo wo:=Below.refl _ _;clear q hx hia hcl HR;go_wp2_with fail;refine wp_region_any (by kernel_rfl) ?_;change wpAny _ _ _ _ _ _ _ (World.drew _);refine hld HSS.o (hB0.drew) (fun hHeld=>?_);refine tk 0 rfl ?_;refine tk 1 rfl ?_;refine tk 2 rfl ?_;refine tk 3 rfl ?_;refine tk 4 rfl ?_;refine tk 5 rfl ?_;refine rd1 6 (fun K hK=>?_);(go_simp;(with_reducible refine (ISx.o _ hB0.drew).mono ?_);rintro e w6 ⟨rfl,hb6⟩;have hB6:Bl wo w6:=hB0.drew.trans hb6;go_wp2_with fail);refine nx hK ?_ (fun hH1=>?_);(first | exact HSS.o _ (by assumption) | exact HSS.o _ hB0.drew);clear hK K hHeld;refine tk 7 rfl ?_;refine dn ?_;rotate_left
    all_goals
      cases ia
      . have hO:OK=false:=hOK.o.trans (HS.o.2 rfl)
        have HC6:=hid (HCo.o.zf hB6);obtain ⟨x0,x1,x2,x3,x4,x5,_⟩:=HC6.o.sc.sb.mb.box;obtain ⟨y0,y1,y2,y3,y4,y5⟩:=HC6.o.sc.sb.y;have d0:=HC6.o.sc.d0;have d1:=HC6.o.sc.d1;have r0:=HC6.o.r0;have r1:=HC6.o.r1;have q0:=HC6.o.q0;have q1:=HC6.o.q1;go_wp2_with fail;subst hO;refine bodyPost_ret (v:=.tuple #[.agg #[.slice none 0 0,.slice none 0 0],.int .i64 4]) (by simp [results,results148,go_sem,r0,r1]) rfl ⟨HC6.o.low _ _,.inr (.inl ⟨rfl,rfl,rfl⟩)⟩
      . have hN:=hid (HS.o.1 rfl)
        go_wp2_with fail;go_roundw
        case rel=>exact ⟨i+1,by omega,by go_num,zi HBo.o hB6,hN.o⟩
        case measure=>simp [intOf] <;> omega
  . have hO:OK=true:=hOK.o.trans (List.all_eq_true.2 fun x hx=>by
      obtain ⟨j,hj,rfl⟩:=List.getElem_of_mem hx;exact HNo.o j hj (by have:=HNn.o;omega))
    subst hO;clear hOK HNo HR ISf;obtain ⟨a',c',e,hcap2,q⟩:=(R2.o wo HCo.o).len;have h0l:0<ll.length:=by omega
    obtain ⟨b2,o2,ea,hbl,hcl⟩:=q 0 h0l;simp only [Value.slice.injEq] at e;obtain ⟨rfl,e',rfl⟩:=e;clear e';subst ea;rw [Nat.add_zero] at hcl;have h0I:(0:Int)<(ll.length:Int):=by omega
    obtain ⟨z,hz⟩:=ex2 (ll[0]'h0l);have hzs:Hid (ll.set 0 z=ll):=hid (by rw [<- hz];exact List.set_getElem_self h0l);rw [hz] at hcl;have WA:=hid (fun wx (g:Bl wo wx)=>jy la (.slice (some ⟨b1,o1,none⟩) la.length c1) r (k:Int) wx (R1.o wx (HCo.o.zf g)) hrl1 l1);have WL:=hid (fun wx (g:Bl wo wx)=>jy ll (.slice (some ⟨b2,o2,none⟩) ll.length c2) 0 z wx (R2.o wx (HCo.o.zf g)) h0l l2);rw [hzs.o,show ((0:Nat):Int)=0 from rfl] at WL
    have HSS:Hid (∀ W',Bl wo W'->W'.cell? ⟨w.heap.size+1,0,none⟩=some (.slice (some ⟨b1,o1,none⟩) la.length c1)/\W'.cell? ⟨w.heap.size+1,1,none⟩=some (.slice (some ⟨b2,o2,none⟩) ll.length c2)/\W'.cell? ⟨b2,o2,none⟩=some (.int .i64 z)/\W'.cell? ⟨w.heap.size+1+1,0,none⟩=some (.slice none 0 0)/\W'.cell? ⟨w.heap.size+1+1,1,none⟩=some (.slice none 0 0)/\W'.frozen? ⟨w.heap.size+1+1,0,none⟩=false/\W'.frozen? ⟨w.heap.size+1+1,1,none⟩=false):=hid fun W' g=>by
      have hh:=HCo.o.zf g;exact ⟨hh.sc.d0,hh.sc.d1,(g.cell (p:=⟨b2,o2,none⟩) hbl).trans hcl,hh.r0,hh.r1,hh.q0,hh.q1⟩
    have hB0:Bl wo wo:=Below.refl _ _;unfold RowP at WA WL;obtain ⟨LA,hLA⟩:∃ L,la.set r (k:Int)=L:=⟨_,rfl⟩;rw [hLA] at WA;have HLA:Hid (la.set (rgA m (k:Int)).toNat (k:Int)=LA):=hid (by rw [HRg.o];exact hLA);clear hLA;clear q hz hcl;go_wp2_with fail;refine wp_region_any (by kernel_rfl) ?_;change wpAny _ _ _ _ _ _ _ (World.drew _);refine zz (n:=14) (o:=⟨some 7,.assign (.const (.int .i64 0)),61, "ref.go:135", #[⟨13,.chain⟩,⟨0,.phase⟩,⟨1,.phase⟩,⟨2,.phase⟩,⟨3,.phase⟩,⟨4,.phase⟩,⟨5,.phase⟩,⟨6,.phase⟩,⟨7,.phase⟩,⟨8,.phase⟩,⟨9,.phase⟩,⟨10,.phase⟩,⟨11,.phase⟩,⟨12,.phase⟩,⟨13,.phase⟩],none⟩) (ops':=_) (by decide) (by kernel_rfl) (by rfl) (by rfl) ?_;refine zz (n:=13) (o:=⟨none,.store 150 (.tmp 6) (.tmp 64),0, "ref.go:135", #[⟨12,.data⟩,⟨11,.chain⟩,⟨0,.phase⟩,⟨1,.phase⟩,⟨2,.phase⟩,⟨3,.phase⟩,⟨4,.phase⟩,⟨5,.phase⟩,⟨6,.phase⟩,⟨7,.phase⟩,⟨8,.phase⟩,⟨9,.phase⟩,⟨10,.phase⟩,⟨11,.phase⟩,⟨12,.phase⟩],none⟩) (ops':=#[⟨some 52,.fieldAddr 150 (.tmp 4) 0,0, "ref.go:135", #[],none⟩,⟨some 53,.load 31 (.tmp 52),31, "ref.go:135", #[⟨0,.data⟩],none⟩,⟨some 54,.move (.tmp 8),3, "ref.go:135", #[],none⟩,⟨some 55,.move (.tmp 2),3, "ref.go:135", #[],none⟩,⟨some 56,.call { callee:=.value (.func 210),args:=#[.tmp 53,.tmp 54,.tmp 55],argTypes:=#[31,3,3] },31, "ref.go:135", #[⟨1,.data⟩,⟨2,.data⟩,⟨3,.data⟩],none⟩,⟨some 57,.fieldAddr 150 (.tmp 4) 1,0, "ref.go:135", #[],none⟩,⟨some 58,.load 31 (.tmp 57),31, "ref.go:135", #[⟨5,.data⟩],none⟩,⟨some 59,.fieldAddr 150 (.tmp 4) 1,0, "ref.go:135", #[],none⟩,⟨some 60,.load 31 (.tmp 59),31, "ref.go:135", #[⟨7,.data⟩],none⟩,⟨some 61,.indexAddr 31 (.tmp 60) (.const (.int .i64 0)),0, "ref.go:135", #[⟨8,.data⟩],none⟩,⟨some 62,.load 3 (.tmp 61),3, "ref.go:135", #[⟨9,.data⟩],none⟩,⟨some 63,.call { callee:=.value (.func 210),args:=#[.tmp 58,.const (.int .i64 0),.tmp 62],argTypes:=#[31,3,3] },31, "ref.go:135", #[⟨6,.data⟩,⟨10,.data⟩,⟨4,.chain⟩],none⟩,⟨some 64,.build 150 #[(0,.tmp 56),(1,.tmp 63)],150, "ref.go:135", #[⟨4,.data⟩,⟨11,.data⟩],none⟩]) (by decide) (by kernel_rfl) (by rfl) (by rfl) ?_;refine hld HSS.o (hB0.drew) (fun hHeld=>?_);refine tk 0 rfl ?_;refine tk 1 rfl ?_;refine tk 2 rfl ?_;refine tk 3 rfl ?_;refine tk 5 rfl ?_;refine tk 6 rfl ?_;refine tk 7 rfl ?_;refine tk 8 rfl ?_;refine tk 9 rfl ?_;refine tk 10 rfl ?_;refine rd1 4 (fun K hK=>?_);(go_simp;(with_reducible refine (WA.o _ (by first | assumption | exact hB0.drew)).mono ?_);rintro e wa ⟨va,rfl,oa,hba⟩;have hBe:=zi (by first | assumption | exact hB0.drew) hba;(first | (have RRl':=hid (RRl.o.zf hba);clear RRl;have RRl:=RRl';clear RRl') | (have RRa':=hid (RRa.o.zf hba);clear RRa;have RRa:=RRa';clear RRa') | skip);have RRa:=hid (RowIn.own oa);obtain ⟨xa,ca,eva⟩:=zj oa;subst eva;clear oa hba;obtain ⟨_,_,_,s3,s4,s5,s6⟩:=HSS.o _ hBe;go_wp2_with fail);refine nx hK ?_ (fun hH1=>?_);(first | exact HSS.o _ (by assumption) | exact HSS.o _ hB0.drew);clear hK K hHeld;refine rd1 11 (fun K hK=>?_);(go_simp;(with_reducible refine (WL.o _ (by first | assumption | exact hB0.drew)).mono ?_);rintro e wl ⟨vl,rfl,ol,hbl⟩;have hBe:=zi (by first | assumption | exact hB0.drew) hbl;(first | (have RRl':=hid (RRl.o.zf hbl);clear RRl;have RRl:=RRl';clear RRl') | (have RRa':=hid (RRa.o.zf hbl);clear RRa;have RRa:=RRa';clear RRa') | skip);have RRl:=hid (RowIn.own ol);obtain ⟨xl,cl,evl⟩:=zj ol;subst evl;clear ol hbl;obtain ⟨_,_,_,s3,s4,s5,s6⟩:=HSS.o _ hBe;go_wp2_with fail);refine nx hK ?_ (fun hH2=>?_);(first | exact HSS.o _ (by assumption) | exact HSS.o _ hB0.drew);clear hK K hH1;refine tk 12 rfl ?_;refine dn ?_;rotate_left
    all_goals
      refine zI fun K hK=>?_;go_simp;refine hK _ _ ?_;clear hK K;refine zI fun K hK=>?_;go_simp;refine hK _ _ ?_;clear hK K;go_wp2_with fail;have HCe:=hid (HCo.o.zf hBe);refine bodyPost_ret (v:=.tuple #[.agg #[.slice xa LA.length ca,.slice xl ll.length cl],.int .i64 0]) (by simp [results,results148,go_sem,s3,s4]) rfl ⟨HCe.o.low _ _,.inr (.inr ⟨rfl,rfl,xa,ca,xl,cl,by rw [HLA.o],?_,?_⟩)⟩
      . rw [HLA.o];exact RRa.o.cells2 _ _ _ _ s3 s4 (fun x e=>by cases e) (fun x e=>by cases e)
      . exact RRl.o.cells2 _ _ _ _ s3 s4 (fun x e=>by cases e) (fun x e=>by cases e)
theorem zee {Q:Nat->BP} (m:MdlD) (p:Ph) (la ll:List Int) (a1 a2:Option Addr) (c1 c2:Nat) (v:Int) (w:World) (h:Mod Q w m p) (h0:riM m=(0,0,0)) (h1:RowIn w (.slice a1 la.length c1) la) (h2:RowIn w (.slice a2 ll.length c2) ll) (l1:la.length<=900000) (l2:ll.length<=900000) (hvl:m.zc.length<=1000) (hrl:m.zb.length<=1000) :
   Calls prog 149 #[stV m p,.agg #[.slice a1 la.length c1,.slice a2 ll.length c2],.int .i64 v] w (StepR (mayR m la ll v) (leaveOk m la v) (la.set (rgA m v).toNat (-1)) (ll.set (rgA m v).toNat v) w):=by
 have HC:=hid (Er.made (ll:=ll) (a2:=a2) (c2:=c2) h h1);have FT:=hid (fun wx (g:Er m p la ll a1 a2 c1 c2 w wx)=>yH m p la ll a1 a2 c1 c2 wx g.sc.sb.mb.mod h0 g.sc.r1 (h2.zf g.sc.sb.mb.bel) (by omega) (by omega) (by omega) (by omega));have VX:=hid (fun wx (g:Er m p la ll a1 a2 c1 c2 w wx)=>yt m p v wx g.sc.sb.mb.mod (by omega));have HG:=hid (fun wx (g:Er m p la ll a1 a2 c1 c2 w wx)=>yG m p v wx g.sc.sb.mb.mod h0 (by omega));have IS:=hid (fun (F:Fit m la) wx (g:Er m p la ll a1 a2 c1 c2 w wx) (x:Int)=>j9 m p la ll a1 a2 c1 c2 x wx g.sc.sb.mb.mod h0 g.sc.r1 F.hl (by omega));have HF:=hid (fun hf:fit2 m la ll=true=>ja h0 hf);have R1:=hid (fun wx (g:Er m p la ll a1 a2 c1 c2 w wx)=>g.sc.r1);have R2:=hid (fun wx (g:Er m p la ll a1 a2 c1 c2 w wx)=>h2.zf g.sc.sb.mb.bel);have RG:=hid (fun wx (g:Er m p la ll a1 a2 c1 c2 w wx)=>qq m p v wx g.sc.sb.mb.mod (by omega));unfold RowP at RG;obtain ⟨fb,hfb⟩:=ex2 (fit2 m la ll);obtain ⟨sb,hsb⟩:=ex2 (stands m v);have HM:Hid (mayR m la ll v=if fb && sb then 0 else 2):=hid (by unfold mayR;rw [hfb,hsb]);rw [hfb] at FT HF;rw [hsb] at VX;have HSb:=hid hsb;have H0:=hid h0;generalize mayR m la ll v=ME at *;unfold ixV mdV at HG RG;unfold stV at *;clear h h0 h1 h2 hfb hsb;go_enter func149,ntmps149;go_upto_region 1 with fail;generalize (((w.alloc (.cells #[.string m.nm,.slice p.a1 m.vars.length p.c1,.slice p.a2 m.za.length p.c2,.slice p.a3 m.zb.length p.c3,.slice p.a4 m.zc.length p.c4,.slice p.a5 m.ze.length p.c5,.string m.nm,.slice p.a1 m.vars.length p.c1,.slice p.a2 m.za.length p.c2,.slice p.a3 m.zb.length p.c3,.slice p.a4 m.zc.length p.c4,.slice p.a5 m.ze.length p.c5] 168)).alloc (.cells #[.slice a1 la.length c1,.slice a2 ll.length c2] 150)).alloc (.cells #[.slice none 0 0,.slice none 0 0] 150))=W1 at *;obtain ⟨x0,x1,x2,x3,x4,x5,_⟩:=HC.o.sc.sb.mb.box;obtain ⟨y0,y1,y2,y3,y4,y5⟩:=HC.o.sc.sb.y;have d0:=HC.o.sc.d0;have d1:=HC.o.sc.d1;have r0:=HC.o.r0;have r1:=HC.o.r1;have q0:=HC.o.q0;have q1:=HC.o.q1
 cases fb
 . have hE:ME=2:=HM.o.trans (if_neg (by simp))
   go_wp2_with fail;(with_reducible refine (FT.o _ HC.o).mono ?_);rintro e w2 ⟨rfl,g2⟩;have HC2:=hid (HC.o.zf g2);clear x0 x1 x2 x3 x4 x5 y0 y1 y2 y3 y4 y5 d0 d1 r0 r1 q0 q1;obtain ⟨x0,x1,x2,x3,x4,x5,_⟩:=HC2.o.sc.sb.mb.box;obtain ⟨y0,y1,y2,y3,y4,y5⟩:=HC2.o.sc.sb.y;have d0:=HC2.o.sc.d0;have d1:=HC2.o.sc.d1;have r0:=HC2.o.r0;have r1:=HC2.o.r1;have q0:=HC2.o.q0;have q1:=HC2.o.q1;go_wp2_with fail;subst hE;refine bodyPost_ret (v:=.tuple #[.agg #[.slice none 0 0,.slice none 0 0],.int .i64 2]) (by simp [results,results149,go_sem,r0,r1]) rfl ⟨HC2.o.low _ _,.inl ⟨by decide,rfl⟩⟩
 go_wp2_with fail;(with_reducible refine (FT.o _ HC.o).mono ?_);rintro e w2 ⟨rfl,g2⟩;have HC2:=hid (HC.o.zf g2);clear x0 x1 x2 x3 x4 x5 y0 y1 y2 y3 y4 y5 d0 d1 r0 r1 q0 q1;obtain ⟨hF1,hF2⟩:=HF.o (by trivial);have HF1:=hid hF1;have HF2:=hid hF2;have ISf:=hid (IS.o hF1);clear hF1 hF2 HF HC FT g2 IS;obtain ⟨x0,x1,x2,x3,x4,x5,_⟩:=HC2.o.sc.sb.mb.box;obtain ⟨y0,y1,y2,y3,y4,y5⟩:=HC2.o.sc.sb.y;have d0:=HC2.o.sc.d0;have d1:=HC2.o.sc.d1;have r0:=HC2.o.r0;have r1:=HC2.o.r1;have q0:=HC2.o.q0;have q1:=HC2.o.q1
 cases sb
 . have hE:ME=2:=HM.o.trans (if_neg (by simp))
   go_wp2_with fail;(with_reducible refine (VX.o _ HC2.o).mono ?_);rintro e w3 ⟨rfl,g3⟩;have HC3:=hid (HC2.o.zf g3);clear x0 x1 x2 x3 x4 x5 y0 y1 y2 y3 y4 y5 d0 d1 r0 r1 q0 q1;obtain ⟨x0,x1,x2,x3,x4,x5,_⟩:=HC3.o.sc.sb.mb.box;obtain ⟨y0,y1,y2,y3,y4,y5⟩:=HC3.o.sc.sb.y;have d0:=HC3.o.sc.d0;have d1:=HC3.o.sc.d1;have r0:=HC3.o.r0;have r1:=HC3.o.r1;have q0:=HC3.o.q0;have q1:=HC3.o.q1;go_wp2_with fail;subst hE;refine bodyPost_ret (v:=.tuple #[.agg #[.slice none 0 0,.slice none 0 0],.int .i64 2]) (by simp [results,results149,go_sem,r0,r1]) rfl ⟨HC3.o.low _ _,.inl ⟨by decide,rfl⟩⟩
 have hE:ME=0:=HM.o.trans (if_pos rfl);subst hE;obtain ⟨k,hk,rfl,r,hr,er1,er2,_⟩:=zD H0.o HSb.o;have hrl1:r<la.length:=by rw [HF1.o.hl];exact hr
 have hrl2:r<ll.length:=by rw [HF2.o.hl];exact hr
 have hrL:(r:Int)<(la.length:Int):=by omega
 have hrL2:(r:Int)<(ll.length:Int):=by omega
 have hr0:(0:Int)<=(r:Int):=by omega
 rw [er2] at HG;have HRg:Hid ((rgA m (k:Int)).toNat=r):=hid (by rw [er1];rfl);have HRi:Hid (rgA m (k:Int)=r):=hid er1;clear er1 er2 HM;go_wp2_with fail;(with_reducible refine (VX.o _ HC2.o).mono ?_);rintro e w3 ⟨rfl,g3⟩;have HC3:=hid (HC2.o.zf g3);clear x0 x1 x2 x3 x4 x5 y0 y1 y2 y3 y4 y5 d0 d1 r0 r1 q0 q1;clear HC2 VX g3;obtain ⟨x0,x1,x2,x3,x4,x5,_⟩:=HC3.o.sc.sb.mb.box;obtain ⟨y0,y1,y2,y3,y4,y5⟩:=HC3.o.sc.sb.y;have d0:=HC3.o.sc.d0;have d1:=HC3.o.sc.d1;have r0:=HC3.o.r0;have r1:=HC3.o.r1;have q0:=HC3.o.q0;have q1:=HC3.o.q1;rw [HRg.o];have hLn:(ownM m (k:Int)).length<=1000:=by have:=zV (isOwn (k:Int)) m.zb;have e:(ownM m (k:Int)).length<=m.zb.length:=this;omega
 have HLv:Hid (leaveOk m la k=(!((ownM m (k:Int)).any fun q=>decide (0<=atL la q)) && isA m la k)):=hid rfl
 have HFr:Hid (∀ (q:Int),q ∈ ownM m (k:Int)->∃ j:Nat,q=j/\j<la.length):=hid (fun q hq=>by
   obtain ⟨j,hj,rfl,_⟩:=yE hq;exact ⟨j,rfl,by rw [HF1.o.hl];exact hj⟩)
 generalize leaveOk m la (k:Int)=OK at *;generalize ownM m (k:Int)=R at *;go_wp2_with fail;(with_reducible refine (RG.o _ HC3.o).mono ?_);rintro e w5 ⟨v5,rfl,o5,g5⟩;have HC5:=hid (HC3.o.zf g5);have R5:=hid (RowIn.own o5);obtain ⟨a,c,rfl,hcr,_⟩:=R5.o.len;have HR:=hid (fun (wx:World) (g:Bl w5 wx)=>(R5.o.zf g).len);clear x0 x1 x2 x3 x4 x5 y0 y1 y2 y3 y4 y5 d0 d1 r0 r1 q0 q1;clear HC3 o5 g5 RG R5;obtain ⟨n,hn⟩:=ex2 R.length;have HNn:=hid hn;rw [hn] at hLn hcr |-;clear hn;go_wp2_with fail
 go_loopw [9] (fun i wr=>∃ k:Nat,k<=n/\i=.int .i64 k/\Bl w5 wr/\∀ j (hj:j<R.length),j<k->decide (0<=atL la R[j])=false) (fun i _=>n - (intOf i).toNat)
 case atStart=>exact ⟨0,by omega,rfl,Below.refl _ _,fun j _ hj=>by omega⟩
 case round =>
  obtain ⟨wo,rfl⟩:=ex1 wr;obtain ⟨i,hi,rfl,hb,hno⟩:=hrel;have HBo:=hid hb;have HCo:=hid (HC5.o.zf hb);have HNo:=hid hno;clear hb hno
  by_cases hlt:i<n
  . have hil:i<R.length:=by rw [HNn.o];exact hlt
    obtain ⟨a',c',e,_,q⟩:=HR.o wo HBo.o;obtain ⟨bx,ox,ea,hbl,hcl⟩:=q i hil;simp only [Value.slice.injEq] at e;obtain ⟨rfl,e',rfl⟩:=e;clear e';subst ea;have hI:(i:Int)<(n:Int):=by omega
    have hI0:(0:Int)<=(i:Int):=by omega
    obtain ⟨j,ej,hj⟩:=HFr.o _ (List.getElem_mem hil)
    have HS:Hid ((¬ (0<=atL la (j:Int))->∀ j' (hj:j'<R.length),j'<i+1->decide (0<=atL la R[j'])=false)/\(0<=atL la (j:Int)->(R.any fun q=>decide (0<=atL la q))=true)):=hid ⟨fun ht j' hj' hji=>by
      by_cases e:j'=i
      . subst e;rw [ej];exact decide_eq_false ht
      . exact HNo.o j' hj' (by omega),fun hf=>List.any_eq_true.2 ⟨R[i],List.getElem_mem hil,by rw [ej];exact decide_eq_true hf⟩⟩
    rw [ej] at hcl;obtain ⟨a'',c'',e,hcl1,q2⟩:=(R1.o wo HCo.o).len;obtain ⟨b1,o1,ea,hbl1,hcl2⟩:=q2 j hj;simp only [Value.slice.injEq] at e;obtain ⟨rfl,e',rfl⟩:=e;clear e';subst ea;rw [<- zaD hj] at hcl2;have hjI:(j:Int)<(la.length:Int):=by omega
    have hj0:(0:Int)<=(j:Int):=by omega
    have d0:=HCo.o.sc.d0;have hB0:Bl wo wo:=Below.refl _ _;generalize atL la (j:Int)=z at *;clear q q2 ej HR
    by_cases hz:0<=z
    . have hO:OK=false:=HLv.o.trans (by rw [HS.o.2 hz];rfl)
      have HC6:=hid (HCo.o.zf (below_drewN hB0 0));have r0:=HCo.o.r0;have r1:=HCo.o.r1;have q0:=HCo.o.q0;have q1:=HCo.o.q1;clear HS;go_wp2_with fail
      go_quiet (fail)
      go_wp2_with fail;subst hO;refine bodyPost_ret (v:=.tuple #[.agg #[.slice none 0 0,.slice none 0 0],.int .i64 4]) (by simp [results,results149,go_sem,r0,r1]) rfl ⟨(HCo.o.zf (below_drewN hB0 _)).low _ _,.inr (.inl ⟨rfl,rfl,rfl⟩)⟩
    . have hzd:decide (0<=z)=false:=decide_eq_false hz
      have hN:=hid (HS.o.1 hz);clear HS;go_wp2_with fail
      go_quiet (fail)
      go_wp2_with fail;go_roundw
      case rel=>exact ⟨i+1,by omega,by go_num,below_drewN HBo.o _,hN.o⟩
      case measure=>simp [intOf] <;> omega
  . have hOK:Hid (OK=isA m la k):=hid (HLv.o.trans (by
      rw [show (R.any fun q=>decide (0<=atL la q))=false from List.any_eq_false.2 fun x hx=>by
        obtain ⟨j,hj,rfl⟩:=List.getElem_of_mem hx;rw [HNo.o j hj (by have:=HNn.o;omega)];decide]
      rfl))
    have ISk:=hid (ISf.o wo HCo.o (k:Int));obtain ⟨ia,hia⟩:∃ b,isA m la (k:Int)=b:=⟨_,rfl⟩;rw [hia] at ISk hOK;clear hia HLv HNo HR ISf HFr;obtain ⟨x0,x1,x2,x3,x4,x5,_⟩:=HCo.o.sc.sb.mb.box;obtain ⟨y0,y1,y2,y3,y4,y5⟩:=HCo.o.sc.sb.y;have d0:=HCo.o.sc.d0;have d1:=HCo.o.sc.d1;have r0:=HCo.o.r0;have r1:=HCo.o.r1;have q0:=HCo.o.q0;have q1:=HCo.o.q1;go_wp2_with fail;(with_reducible refine (ISk.o).mono ?_);rintro e w6 ⟨rfl,g6⟩;have HC6:=hid (HCo.o.zf g6);clear x0 x1 x2 x3 x4 x5 y0 y1 y2 y3 y4 y5 d0 d1 r0 r1 q0 q1;clear HCo ISk g6;obtain ⟨x0,x1,x2,x3,x4,x5,_⟩:=HC6.o.sc.sb.mb.box;obtain ⟨y0,y1,y2,y3,y4,y5⟩:=HC6.o.sc.sb.y;have d0:=HC6.o.sc.d0;have d1:=HC6.o.sc.d1;have r0:=HC6.o.r0;have r1:=HC6.o.r1;have q0:=HC6.o.q0;have q1:=HC6.o.q1
    cases ia
    . have hO:OK=false:=hOK.o
      go_wp2_with fail;subst hO;refine bodyPost_ret (v:=.tuple #[.agg #[.slice none 0 0,.slice none 0 0],.int .i64 4]) (by simp [results,results149,go_sem,r0,r1]) rfl ⟨HC6.o.low _ _,.inr (.inl ⟨rfl,rfl,rfl⟩)⟩
    have hO:OK=true:=hOK.o;subst hO;clear hOK;go_wp2_with fail;(with_reducible refine (HG.o _ HC6.o).mono ?_);rintro e w7 ⟨rfl,g7⟩;have HC7:=hid (HC6.o.zf g7);clear x0 x1 x2 x3 x4 x5 y0 y1 y2 y3 y4 y5 d0 d1 r0 r1 q0 q1;clear HC6 HG g7;have WA:=hid (fun wx (g:Bl w7 wx)=>jy la (.slice a1 la.length c1) r (-1) wx (R1.o wx (HC7.o.zf g)) hrl1 l1);have WL:=hid (fun wx (g:Bl w7 wx)=>jy ll (.slice a2 ll.length c2) r (k:Int) wx (R2.o wx (HC7.o.zf g)) hrl2 l2)
    have HSS:Hid (∀ W',Bl w7 W'->W'.cell? ⟨w.heap.size+1,0,none⟩=some (.slice a1 la.length c1)/\W'.cell? ⟨w.heap.size+1,1,none⟩=some (.slice a2 ll.length c2)/\W'.cell? ⟨w.heap.size+1+1,0,none⟩=some (.slice none 0 0)/\W'.cell? ⟨w.heap.size+1+1,1,none⟩=some (.slice none 0 0)/\W'.frozen? ⟨w.heap.size+1+1,0,none⟩=false/\W'.frozen? ⟨w.heap.size+1+1,1,none⟩=false):=hid fun W' g=>by
      have hh:=HC7.o.zf g;exact ⟨hh.sc.d0,hh.sc.d1,hh.r0,hh.r1,hh.q0,hh.q1⟩
    have hB0:Bl w7 w7:=Below.refl _ _;unfold RowP at WA WL;obtain ⟨LA,hLA⟩:=ex2 (la.set r (-1));obtain ⟨LL,hLL⟩:∃ L,ll.set r (k:Int)=L:=⟨_,rfl⟩;rw [hLA] at WA;rw [hLL] at WL;have HLA:Hid (la.set (rgA m (k:Int)).toNat (-1)=LA):=hid (by rw [HRg.o];exact hLA);have HLL:Hid (ll.set (rgA m (k:Int)).toNat (k:Int)=LL):=hid (by rw [HRg.o];exact hLL);clear hLA hLL;go_wp2_with fail;refine wp_region_any (by kernel_rfl) ?_;change wpAny _ _ _ _ _ _ _ (World.drew _);refine zz (n:=11) (o:=⟨some 7,.assign (.const (.int .i64 0)),61, "ref.go:153", #[⟨10,.chain⟩,⟨0,.phase⟩,⟨1,.phase⟩,⟨2,.phase⟩,⟨3,.phase⟩,⟨4,.phase⟩,⟨5,.phase⟩,⟨6,.phase⟩,⟨7,.phase⟩,⟨8,.phase⟩,⟨9,.phase⟩,⟨10,.phase⟩],none⟩) (ops':=_) (by decide) (by kernel_rfl) (by rfl) (by rfl) ?_;refine zz (n:=10) (o:=⟨none,.store 150 (.tmp 6) (.tmp 61),0, "ref.go:153", #[⟨9,.data⟩,⟨8,.chain⟩,⟨0,.phase⟩,⟨1,.phase⟩,⟨2,.phase⟩,⟨3,.phase⟩,⟨4,.phase⟩,⟨5,.phase⟩,⟨6,.phase⟩,⟨7,.phase⟩,⟨8,.phase⟩,⟨9,.phase⟩],none⟩) (ops':=#[⟨some 52,.fieldAddr 150 (.tmp 4) 0,0, "ref.go:153", #[],none⟩,⟨some 53,.load 31 (.tmp 52),31, "ref.go:153", #[⟨0,.data⟩],none⟩,⟨some 54,.move (.tmp 10),3, "ref.go:153", #[],none⟩,⟨some 55,.call { callee:=.value (.func 210),args:=#[.tmp 53,.tmp 54,.const (.int .i64 (-1))],argTypes:=#[31,3,3] },31, "ref.go:153", #[⟨1,.data⟩,⟨2,.data⟩],none⟩,⟨some 56,.fieldAddr 150 (.tmp 4) 1,0, "ref.go:153", #[],none⟩,⟨some 57,.load 31 (.tmp 56),31, "ref.go:153", #[⟨4,.data⟩],none⟩,⟨some 58,.move (.tmp 10),3, "ref.go:153", #[],none⟩,⟨some 59,.move (.tmp 2),3, "ref.go:153", #[],none⟩,⟨some 60,.call { callee:=.value (.func 210),args:=#[.tmp 57,.tmp 58,.tmp 59],argTypes:=#[31,3,3] },31, "ref.go:153", #[⟨5,.data⟩,⟨6,.data⟩,⟨7,.data⟩,⟨3,.chain⟩],none⟩,⟨some 61,.build 150 #[(0,.tmp 55),(1,.tmp 60)],150, "ref.go:153", #[⟨3,.data⟩,⟨8,.data⟩],none⟩]) (by decide) (by kernel_rfl) (by rfl) (by rfl) ?_;refine hld HSS.o (hB0.drew) (fun hHeld=>?_);refine tk 0 rfl ?_;refine tk 1 rfl ?_;refine tk 2 rfl ?_;refine tk 4 rfl ?_;refine tk 5 rfl ?_;refine tk 6 rfl ?_;refine tk 7 rfl ?_;refine rd1 3 (fun K hK=>?_);(go_simp;(with_reducible refine (WA.o _ (by first | assumption | exact hB0.drew)).mono ?_);rintro e wa ⟨va,rfl,oa,hba⟩;have hBe:=zi (by first | assumption | exact hB0.drew) hba;(first | (have RRl':=hid (RRl.o.zf hba);clear RRl;have RRl:=RRl';clear RRl') | (have RRa':=hid (RRa.o.zf hba);clear RRa;have RRa:=RRa';clear RRa') | skip);have RRa:=hid (RowIn.own oa);obtain ⟨xa,ca,eva⟩:=zj oa;subst eva;clear oa hba;obtain ⟨_,_,s3,s4,s5,s6⟩:=HSS.o _ hBe;go_wp2_with fail);refine nx hK ?_ (fun hH1=>?_);(first | exact HSS.o _ (by assumption) | exact HSS.o _ hB0.drew);clear hK K hHeld;refine rd1 8 (fun K hK=>?_);(go_simp;(with_reducible refine (WL.o _ (by first | assumption | exact hB0.drew)).mono ?_);rintro e wl ⟨vl,rfl,ol,hbl⟩;have hBe:=zi (by first | assumption | exact hB0.drew) hbl;(first | (have RRl':=hid (RRl.o.zf hbl);clear RRl;have RRl:=RRl';clear RRl') | (have RRa':=hid (RRa.o.zf hbl);clear RRa;have RRa:=RRa';clear RRa') | skip);have RRl:=hid (RowIn.own ol);obtain ⟨xl,cl,evl⟩:=zj ol;subst evl;clear ol hbl;obtain ⟨_,_,s3,s4,s5,s6⟩:=HSS.o _ hBe;go_wp2_with fail);refine nx hK ?_ (fun hH2=>?_);(first | exact HSS.o _ (by assumption) | exact HSS.o _ hB0.drew);clear hK K hH1;refine tk 9 rfl ?_;refine dn ?_;rotate_left
    all_goals
      refine zI fun K hK=>?_;go_simp;refine hK _ _ ?_;clear hK K;refine zI fun K hK=>?_;go_simp;refine hK _ _ ?_;clear hK K;go_wp2_with fail;have HCe:=hid (HC7.o.zf hBe);refine bodyPost_ret (v:=.tuple #[.agg #[.slice xa LA.length ca,.slice xl LL.length cl],.int .i64 0]) (by simp [results,results149,go_sem,s3,s4]) rfl ⟨HCe.o.low _ _,.inr (.inr ⟨rfl,rfl,xa,ca,xl,cl,by rw [HLA.o,HLL.o],?_,?_⟩)⟩
      . rw [HLA.o];exact RRa.o.cells2 _ _ _ _ s3 s4 (fun x e=>by cases e) (fun x e=>by cases e)
      . rw [HLL.o];exact RRl.o.cells2 _ _ _ _ s3 s4 (fun x e=>by cases e) (fun x e=>by cases e)
def actX (m:MdlD) (la ll:List Int):List Int:=if fit2 m la ll then actF m la m.zc.length else []
theorem zdl {Q:Nat->BP} (m:MdlD) (p:Ph) (la ll:List Int) (a1 a2:Option Addr) (c1 c2:Nat) (w:World) (h:Mod Q w m p) (h0:riM m=(0,0,0)) (h1:RowIn w (.slice a1 la.length c1) la) (h2:RowIn w (.slice a2 ll.length c2) ll) (b1:la.length<=1000000) (b2:ll.length<=1000000) (hvl:m.zc.length<=1000) (hrl:m.zb.length<=1000) :
   Calls prog 144 #[stV m p,.agg #[.slice a1 la.length c1,.slice a2 ll.length c2]] w (RowP (actX m la ll) w):=by
 obtain ⟨iI,hiI,zI0,zI1,zI2⟩:=info_parts zS;have HC:=hid (Sc.made (ll:=ll) (a2:=a2) (c2:=c2) h h1);have FT:=hid (fun wx (g:Sc m p la ll a1 a2 c1 c2 w wx)=>yH m p la ll a1 a2 c1 c2 wx g.sb.mb.mod h0 g.r1 (h2.zf g.sb.mb.bel) b1 b2 (by omega) (by omega));unfold RowP;have HE:Hid (∀ b,fit2 m la ll=b->actX m la ll=if b then actF m la m.zc.length else []):=hid fun b hb=>by unfold actX;rw [hb]
 have HF:=hid (fun hf:fit2 m la ll=true=>(ja h0 hf).1);have IS:=hid (fun (F:Fit m la) wx (g:Sc m p la ll a1 a2 c1 c2 w wx) (v:Int)=>j9 m p la ll a1 a2 c1 c2 v wx g.sb.mb.mod h0 g.r1 F.hl (by omega));have HS0:=hid (zfF m la);have HSs:=hid (zfG m la);have HSl:=hid (zdc m la);generalize actX m la ll=X at *;generalize fit2 m la ll=fb at *;have HX0:=hid (HE.o fb rfl);unfold stV at *;clear h h0 h1 h2 HE;go_enter func144,ntmps144;go_upto_region 2 with fail;generalize ((w.alloc (.cells #[.string m.nm,.slice p.a1 m.vars.length p.c1,.slice p.a2 m.za.length p.c2,.slice p.a3 m.zb.length p.c3,.slice p.a4 m.zc.length p.c4,.slice p.a5 m.ze.length p.c5,.string m.nm,.slice p.a1 m.vars.length p.c1,.slice p.a2 m.za.length p.c2,.slice p.a3 m.zb.length p.c3,.slice p.a4 m.zc.length p.c4,.slice p.a5 m.ze.length p.c5] 168)).alloc (.cells #[.slice a1 la.length c1,.slice a2 ll.length c2] 150))=W1 at *;have hw1:w.heap.size<=W1.heap.size:=HC.o.sb.mb.bel.size
 cases fb
 . have hX:Hid (X=[]):=hid (HX0.o.trans (if_neg (by decide)))
   obtain ⟨x0,x1,x2,x3,x4,x5,_⟩:=HC.o.sb.mb.box;obtain ⟨y0,y1,y2,y3,y4,y5⟩:=HC.o.sb.y;have d0:=HC.o.d0;have d1:=HC.o.d1;go_wp2_with fail
   go_loopw [5,6] (fun o i wr=>o=.slice none 0 0/\i=.int .i64 0/\wr=W1) (fun _ _ _=>0)
   case atStart=>exact ⟨rfl,rfl,rfl⟩
   case round =>
    obtain ⟨rfl,rfl,rfl⟩:=hrel;go_wp2_with fail;(with_reducible refine (FT.o _ HC.o).mono ?_);rintro e w2 ⟨rfl,g2⟩;have HC2:=hid (HC.o.zf g2);go_wp2_with fail;go_ret;rw [hX.o];exact ⟨_,rfl,World.ownsRow_nil _ _ _ _,HC2.o.sb.mb.bel⟩
 . have hX:Hid (X=actF m la m.zc.length):=hid (HX0.o.trans (if_pos rfl))
   have F:=hid (HF.o rfl);have ISf:=hid (IS.o F.o);clear HX0 HF IS F;go_wp2_with fail
   go_loopw [5,6] (fun o i wr=>∃ k:Nat,k<=m.zc.length/\i=.int .i64 k/\Bl W1 wr/\wr.ownsRow W1.heap.size 3 1 o (actF m la k).length (nums (actF m la k))) (fun _ i _=>m.zc.length - (intOf i).toNat)
   case atStart=>exact ⟨0,by omega,rfl,Below.refl _ _,by rw [HS0.o];exact World.ownsRow_nil _ _ _ _⟩
   case round =>
    obtain ⟨wo,rfl⟩:=ex1 wr;obtain ⟨k,hk,rfl,hb,ho⟩:=hrel;have HBo:=hid hb;have HSo:=hid (HC.o.zf hb);have HO:=hid ho;have hz5:W1.heap.size<=wo.heap.size:=hb.size;have hln:=HSl.o k;clear hb ho HS0;obtain ⟨x0,x1,x2,x3,x4,x5,_⟩:=HSo.o.sb.mb.box;obtain ⟨y0,y1,y2,y3,y4,y5⟩:=HSo.o.sb.y;have d0:=HSo.o.d0;have d1:=HSo.o.d1;go_wp2_with fail;(with_reducible refine (FT.o _ HSo.o).mono ?_);rintro e w2 ⟨rfl,g2⟩;have HC2:=hid (HSo.o.zf g2);have HB2:=hid (zi HBo.o g2);have HO2:=hid (zY HO.o g2);have hz2:W1.heap.size<=w2.heap.size:=HB2.o.size;clear x0 x1 x2 x3 x4 x5 y0 y1 y2 y3 y4 y5 d0 d1 HSo HBo HO hz5 FT g2;obtain ⟨x0,x1,x2,x3,x4,x5,_⟩:=HC2.o.sb.mb.box;obtain ⟨y0,y1,y2,y3,y4,y5⟩:=HC2.o.sb.y;have d0:=HC2.o.d0;have d1:=HC2.o.d1
    by_cases hlt:k<m.zc.length
    . have hI:(k:Int)<(m.zc.length:Int):=by omega
      have IK:=hid (ISf.o w2 HC2.o (k:Int));have hS:=HSs.o k;obtain ⟨b,hb⟩:∃ b,isA m la (k:Int)=b:=⟨_,rfl⟩;rw [hb] at IK hS;have HS2:=hid hS;clear hb hS ISf HSs HSl;go_wp2_with fail;(with_reducible refine (IK.o).mono ?_);rintro e w3 ⟨rfl,g3⟩;have HB3:=hid (zi HB2.o g3);have HO3:=hid (zY HO2.o g3);have hz3:W1.heap.size<=w3.heap.size:=HB3.o.size;clear x0 x1 x2 x3 x4 x5 y0 y1 y2 y3 y4 y5 d0 d1 g3
      cases b
      . have HS3:Hid (actF m la (k+1)=actF m la k):=hid (by rw [HS2.o];simp)
        go_wp2_with fail;go_roundw
        case rel=>exact ⟨k+1,by omega,by go_num,HB3.o,by rw [HS3.o];exact HO3.o⟩
        case measure=>simp [intOf] <;> omega
      . have HS3:Hid (actF m la (k+1)=actF m la k ++ [(k:Int)]):=hid (by rw [HS2.o];simp)
        go_wp2_with (at_builtin;refine zn _ rfl _ _ 31 rfl 3 W1.heap.size iI (.int .i64 0) underlying31 hiI zI0 zI1 zI2 rfl _ (actF m la k) rfl (HO3.o.alloc _) _ [(k:Int)] rfl (row1 _ _ _) (by simp;omega) (by simp;omega) ?_;intro v5 w5 hown5 hgrow5 hnxt5);have HB5:=hid (jb HB3.o (Nat.le_refl _) HO3.o (zg _ _) (by omega) hgrow5);go_roundw
        case rel=>exact ⟨k+1,by omega,by go_num,HB5.o,by rw [HS3.o];exact hown5⟩
        case measure=>simp [intOf] <;> omega
    . obtain rfl:k=m.zc.length:=by omega
      go_wp2_with fail;go_ret;rw [hX.o];exact ⟨_,rfl,HO2.o.mono hw1,HC2.o.sb.mb.bel⟩
theorem cmp_no {m:MdlD} {la ll:List Int} {v:Int} {fb:Bool} (h:fb=false\/stA m v=false\/isA m la v=false):cmpM m la ll v fb=false:=by
 unfold cmpM
 rcases h with h | h | h <;> rw [h] <;> simp
theorem cmp_yes {m:MdlD} {la ll:List Int} {v:Int} (h2:stA m v=true) (h3:isA m la v=true) {b:Bool} (hb:((ownM m v).any fun q=>!finM m (atL la q))=b):cmpM m la ll v true=!b:=by
 unfold cmpM;rw [h2,h3,hb];rfl
theorem stand_no {m:MdlD} {v:Int} (h:stands m v=false):stA m v=false:=by
 cases hv:hasV m v with
 | false=>unfold stA;rw [hv];rfl
 | true =>
  obtain ⟨k,rfl,hk⟩:=zN hv;rw [yg hk] at h;unfold stA;rw [hv,qP hk];simp only [Bool.or_eq_false_iff] at h;rw [h.1];rfl
theorem st_at {m:MdlD} {k:Nat} (hk:k<m.zc.length):stA m (k:Int)=(m.zc[k].kd == 1):=by
 unfold stA;rw [zE hk,qP hk];rfl
theorem fin_at {m:MdlD} {k:Nat} (hk:k<m.zc.length):finM m (k:Int)=(m.zc[k].kd == 2):=by
 unfold finM;rw [zE hk,qP hk];rfl
theorem fin_neg {m:MdlD} {v:Int} (h:v<0):finM m v=false:=by
 unfold finM hasV;rw [decide_eq_false (by omega)];rfl
theorem zaS {Q:Nat->BP} (m:MdlD) (la ll:List Int) (a1 a2:Option Addr) (c1 c2 k:Nat) (q1:Option Addr) (s1:Nat) (q2:Option Addr) (s2:Nat) (q3:Option Addr) (s3 b4 o4 s4:Nat) (q5:Option Addr) (s5:Nat) (w:World) (h:Mod Q w m ⟨q1,s1,q2,s2,q3,s3,some ⟨b4,o4,none⟩,s4,q5,s5⟩) (h0:riM m=(0,0,0)) (h1:RowIn w (.slice a1 la.length c1) la) (h2:RowIn w (.slice a2 ll.length c2) ll) (hfit:fit2 m la ll=true) (hk:k<m.zc.length) (hst:stands m (k:Int)=true) (hvl:m.zc.length<=1000) (hrl:m.zb.length<=1000) :
   Calls prog 146 #[stV m ⟨q1,s1,q2,s2,q3,s3,some ⟨b4,o4,none⟩,s4,q5,s5⟩,.agg #[.slice a1 la.length c1,.slice a2 ll.length c2],.int .i64 (k:Int)] w fun e w'=>e=.returned (.bool (cmpM m la ll k true))/\Bl w w':=by
 obtain ⟨F,F2⟩:=ja h0 hfit;have HC:=hid (Sc.made (ll:=ll) (a2:=a2) (c2:=c2) h h1);have FT:=hid (fun wx (g:Sc m ⟨q1,s1,q2,s2,q3,s3,some ⟨b4,o4,none⟩,s4,q5,s5⟩ la ll a1 a2 c1 c2 w wx)=>yH m _ la ll a1 a2 c1 c2 wx g.sb.mb.mod h0 g.r1 (h2.zf g.sb.mb.bel) (by rw [F.hl];omega) (by rw [F2.hl];omega) (by omega) (by omega));have VX:=hid (fun wx (g:Sc m ⟨q1,s1,q2,s2,q3,s3,some ⟨b4,o4,none⟩,s4,q5,s5⟩ la ll a1 a2 c1 c2 w wx)=>yt m _ (k:Int) wx g.sb.mb.mod (by omega));have IS:=hid (fun wx (g:Sc m ⟨q1,s1,q2,s2,q3,s3,some ⟨b4,o4,none⟩,s4,q5,s5⟩ la ll a1 a2 c1 c2 w wx)=>j9 m _ la ll a1 a2 c1 c2 (k:Int) wx g.sb.mb.mod h0 g.r1 F.hl (by omega));have RG:=hid (fun wx (g:Sc m ⟨q1,s1,q2,s2,q3,s3,some ⟨b4,o4,none⟩,s4,q5,s5⟩ la ll a1 a2 c1 c2 w wx)=>qq m _ (k:Int) wx g.sb.mb.mod (by omega))
 have HV:Hid (∀ wx,Sc m ⟨q1,s1,q2,s2,q3,s3,some ⟨b4,o4,none⟩,s4,q5,s5⟩ la ll a1 a2 c1 c2 w wx->∀ (j:Nat) (hj:j<m.zc.length),wx.cell? ⟨b4,o4+j * 8+1,none⟩=some (.int .u8 m.zc[j].kd)):=hid (fun wx g j hj=>by
   obtain ⟨b2,o2,ea,hb2,dv,_,_,r1,_⟩:=g.sb.mb.mod.zc.get hj;simp only [Option.some.injEq,Addr.mk.injEq] at ea;obtain ⟨rfl,rfl,_⟩:=ea;exact r1)
 have hcv:=h.zc.cap (by omega);dsimp only at hcv;have HN:=hid (fun hh=>cmp_no (m:=m) (la:=la) (ll:=ll) (v:=(k:Int)) (fb:=true) hh);have HY:=hid (fun q2 q3 b hb=>cmp_yes (m:=m) (la:=la) (ll:=ll) (v:=(k:Int)) q2 q3 (b:=b) hb);have HRw:=hid (fun wx (g:Sc m ⟨q1,s1,q2,s2,q3,s3,some ⟨b4,o4,none⟩,s4,q5,s5⟩ la ll a1 a2 c1 c2 w wx)=>g.r1.len)
 have HFr:Hid (∀ (q:Int),q ∈ ownM m (k:Int)->∃ j:Nat,q=j/\j<la.length/\(atL la j<0\/∃ y:Nat,y<m.zc.length/\atL la j=y)):=hid (fun q hq=>by
   obtain ⟨j,hj,rfl,_⟩:=yE hq;refine ⟨j,rfl,by rw [F.hl];exact hj,?_⟩
   by_cases hn:atL la j<0
   . exact .inl hn
   . obtain ⟨y,hy,ey,_⟩:=yD F.hl F.hf hj (by omega)
     exact .inr ⟨y,hy,ey⟩)
 have hLn:(ownM m (k:Int)).length<=1000:=by have:=zV (isOwn (k:Int)) m.zb;have e:(ownM m (k:Int)).length<=m.zb.length:=this;omega
 rw [hfit] at FT;rw [hst] at VX;have HStk:=hid (st_at hk);have HVk:=hid (fun wx g=>HV.o wx g k hk);obtain ⟨kx,hkx⟩:=ex2 (m.zc[k].kd);rw [hkx] at HStk HVk;have hkI:(k:Int)<(m.zc.length:Int):=by omega
 have hk0:(0:Int)<=(k:Int):=by omega
 unfold RowP at RG;unfold ixV at RG;unfold stV mdV at *;dsimp only at FT VX IS RG |-;clear h h0 h1 h2 hfit hst hkx F F2;go_enter func146,ntmps146;go_upto_region 1 with fail;generalize ((w.alloc (.cells #[.string m.nm,.slice q1 m.vars.length s1,.slice q2 m.za.length s2,.slice q3 m.zb.length s3,.slice (some ⟨b4,o4,none⟩) m.zc.length s4,.slice q5 m.ze.length s5,.string m.nm,.slice q1 m.vars.length s1,.slice q2 m.za.length s2,.slice q3 m.zb.length s3,.slice (some ⟨b4,o4,none⟩) m.zc.length s4,.slice q5 m.ze.length s5] 168)).alloc (.cells #[.slice a1 la.length c1,.slice a2 ll.length c2] 150))=W1 at *;obtain ⟨x0,x1,x2,x3,x4,x5,_⟩:=HC.o.sb.mb.box;obtain ⟨y0,y1,y2,y3,y4,y5⟩:=HC.o.sb.y;have d0:=HC.o.d0;have d1:=HC.o.d1;dsimp only at x0 x1 x2 x3 x4 x5 y0 y1 y2 y3 y4 y5;go_wp2_with fail;(with_reducible refine (FT.o _ HC.o).mono ?_);rintro e w2 ⟨rfl,g2⟩;have HC2:=hid (HC.o.zf g2);clear x0 x1 x2 x3 x4 x5 y0 y1 y2 y3 y4 y5 d0 d1 HC FT g2;obtain ⟨x0,x1,x2,x3,x4,x5,_⟩:=HC2.o.sb.mb.box;obtain ⟨y0,y1,y2,y3,y4,y5⟩:=HC2.o.sb.y;dsimp only at x0 x1 x2 x3 x4 x5 y0 y1 y2 y3 y4 y5;go_wp2_with fail;(with_reducible refine (VX.o _ HC2.o).mono ?_);rintro e w3 ⟨rfl,g3⟩;have HC3:=hid (HC2.o.zf g3);clear x0 x1 x2 x3 x4 x5 y0 y1 y2 y3 y4 y5 HC2 VX g3;obtain ⟨x0,x1,x2,x3,x4,x5,_⟩:=HC3.o.sb.mb.box;obtain ⟨y0,y1,y2,y3,y4,y5⟩:=HC3.o.sb.y;have d0:=HC3.o.d0;have d1:=HC3.o.d1;dsimp only at x0 x1 x2 x3 x4 x5 y0 y1 y2 y3 y4 y5;have r1:=HVk.o w3 HC3.o
 cases hq:(kx == 1) with
 | false =>
  have hq2:((kx:Int) != 1)=true:=by simp at hq |-;omega
  have HX:=hid (HN.o (.inr (.inl (HStk.o.trans hq))));clear HN HY HStk hq;go_wp2_with fail;go_ret;exact ⟨by rw [HX.o];first | done | rfl,HC3.o.sb.mb.bel⟩
 | true =>
  have hq2:((kx:Int) != 1)=false:=by simp at hq |-;omega
  obtain ⟨ia,hia⟩:∃ b,isA m la (k:Int)=b:=⟨_,rfl⟩;rw [hia] at IS HN HY;have HY1:=hid (fun q3 b hb=>HY.o (HStk.o.trans hq) q3 b hb);clear hq hia HY HStk;go_wp2_with fail;(with_reducible refine (IS.o _ HC3.o).mono ?_);rintro e w4 ⟨rfl,g4⟩;have HC4:=hid (HC3.o.zf g4);clear x0 x1 x2 x3 x4 x5 y0 y1 y2 y3 y4 y5 d0 d1 r1 HC3 IS g4 HVk
  cases ia
  . have HX:=hid (HN.o (.inr (.inr rfl)))
    clear HN HY1;go_wp2_with fail;go_ret;exact ⟨by rw [HX.o];first | done | rfl,HC4.o.sb.mb.bel⟩
  have HYb:=hid (HY1.o rfl);clear HN HY1;generalize ownM m (k:Int)=R at *;obtain ⟨y0,y1,y2,y3,y4,y5⟩:=HC4.o.sb.y;dsimp only at y0 y1 y2 y3 y4 y5;go_wp2_with fail;(with_reducible refine (RG.o _ HC4.o).mono ?_);rintro e w5 ⟨v5,rfl,o5,g5⟩;have HC5:=hid (HC4.o.zf g5);have R5:=hid (RowIn.own o5);obtain ⟨a,c,rfl,hcr,_⟩:=R5.o.len;have HR:=hid (fun (wx:World) (g:Bl w5 wx)=>(R5.o.zf g).len);clear y0 y1 y2 y3 y4 y5 HC4 o5 g5 RG R5;obtain ⟨n,hn⟩:=ex2 R.length;have HNn:=hid hn;rw [hn] at hLn hcr |-;clear hn;go_wp2_with fail
  go_loopw [8] (fun i wr=>∃ k:Nat,k<=n/\i=.int .i64 k/\Bl w5 wr/\∀ j (hj:j<R.length),j<k->finM m (atL la R[j])=true) (fun i _=>n - (intOf i).toNat)
  case atStart=>exact ⟨0,by omega,rfl,Below.refl _ _,fun j _ hj=>by omega⟩
  case round =>
   obtain ⟨wo,rfl⟩:=ex1 wr;obtain ⟨i,hi,rfl,hb,hno⟩:=hrel;have HBo:=hid hb;have HSo:=hid (HC5.o.zf hb);have HNo:=hid hno;clear hb hno
   by_cases hlt:i<n
   . have hil:i<R.length:=by rw [HNn.o];exact hlt
     obtain ⟨a',c',e,_,q⟩:=HR.o wo HBo.o;obtain ⟨bx,ox,ea,hbl,hcl⟩:=q i hil;simp only [Value.slice.injEq] at e;obtain ⟨rfl,e',rfl⟩:=e;clear e';subst ea;have hI:(i:Int)<(n:Int):=by omega
     have hI0:(0:Int)<=(i:Int):=by omega
     obtain ⟨j,ej,hj,hor⟩:=HFr.o _ (List.getElem_mem hil)
     have HS:Hid ((finM m (atL la j)=true->∀ j' (hj:j'<R.length),j'<i+1->finM m (atL la R[j'])=true)/\(finM m (atL la j)=false->(R.any fun q=>!finM m (atL la q))=true)):=hid ⟨fun ht j' hj' hji=>by
       by_cases e:j'=i
       . subst e;rw [ej];exact ht
       . exact HNo.o j' hj' (by omega),fun hf=>List.any_eq_true.2 ⟨R[i],List.getElem_mem hil,by rw [ej,hf];rfl⟩⟩
     rw [ej] at hcl;obtain ⟨a'',c'',e,hcl1,q2⟩:=HRw.o wo HSo.o;obtain ⟨b1,o1,ea,hbl1,hcl2⟩:=q2 j hj;simp only [Value.slice.injEq] at e;obtain ⟨rfl,e',rfl⟩:=e;clear e';subst ea;rw [<- zaD hj] at hcl2;have hjI:(j:Int)<(la.length:Int):=by omega
     have hj0:(0:Int)<=(j:Int):=by omega
     have d0:=HSo.o.d0;obtain ⟨_,_,_,_,x4,_,_⟩:=HSo.o.sb.mb.box;dsimp only at x4;have HVo:=hid (fun y hy=>HV.o wo HSo.o y hy);have hB0:Bl wo wo:=Below.refl _ _;generalize atL la (j:Int)=z at *;clear q q2 ej
     rcases hor with hn | ⟨y,hy,rfl⟩
     . have hX:Hid (cmpM m la ll k true=false):=hid ((HYb.o _ (HS.o.2 (fin_neg hn))).trans rfl)
       clear HS;go_wp2_with fail
       go_quiet (fail)
       go_wp2_with fail;go_ret;exact ⟨by rw [hX.o];first | done | rfl,(HSo.o.zf (below_drewN hB0 _)).sb.mb.bel⟩
     . have r1:=HVo.o y hy
       rw [fin_at hy] at HS;obtain ⟨ky,hky⟩:=ex2 (m.zc[y].kd);rw [hky] at r1 HS;have hyn:¬ ((y:Int)<0):=by omega
       have hyI:(y:Int)<(m.zc.length:Int):=by omega
       have hy0:(0:Int)<=(y:Int):=by omega
       clear hky
       cases hq:(ky == 2) with
       | false =>
        have hq2:((ky:Int) != 2)=true:=by simp at hq |-;omega
        have hX:Hid (cmpM m la ll k true=false):=hid ((HYb.o _ (HS.o.2 hq)).trans rfl);clear HS hq;go_wp2_with fail
        go_quiet (fail)
        go_wp2_with fail;go_ret;exact ⟨by rw [hX.o];first | done | rfl,(HSo.o.zf (below_drewN hB0 _)).sb.mb.bel⟩
       | true =>
        have hq2:((ky:Int) != 2)=false:=by simp at hq |-;omega
        have hN:=hid (HS.o.1 hq);clear HS hq;go_wp2_with fail
        go_quiet (fail)
        go_wp2_with fail;go_roundw
        case rel=>exact ⟨i+1,by omega,by go_num,below_drewN HBo.o _,hN.o⟩
        case measure=>simp [intOf] <;> omega
   . have hX:Hid (cmpM m la ll k true=true):=hid ((HYb.o false (List.any_eq_false.2 fun x hx=>by
       obtain ⟨j,hj,rfl⟩:=List.getElem_of_mem hx;rw [HNo.o j hj (by have:=HNn.o;omega)];simp)).trans rfl)
     go_wp2_with fail;go_ret;exact ⟨by rw [hX.o];first | done | rfl,HSo.o.sb.mb.bel⟩
theorem zbf {Q:Nat->BP} (m:MdlD) (p:Ph) (la ll:List Int) (a1 a2:Option Addr) (c1 c2:Nat) (v:Int) (w:World) (h:Mod Q w m p) (h0:riM m=(0,0,0)) (h1:RowIn w (.slice a1 la.length c1) la) (h2:RowIn w (.slice a2 ll.length c2) ll) (b1:la.length<=1000000) (b2:ll.length<=1000000) (hvl:m.zc.length<=1000) (hrl:m.zb.length<=1000) :
   Calls prog 146 #[stV m p,.agg #[.slice a1 la.length c1,.slice a2 ll.length c2],.int .i64 v] w fun e w'=>e=.returned (.bool (cmpM m la ll v (fit2 m la ll)))/\Bl w w':=by
 have HC:=hid (Sc.made (ll:=ll) (a2:=a2) (c2:=c2) h h1);have FT:=hid (fun wx (g:Sc m p la ll a1 a2 c1 c2 w wx)=>yH m p la ll a1 a2 c1 c2 wx g.sb.mb.mod h0 g.r1 (h2.zf g.sb.mb.bel) b1 b2 (by omega) (by omega));have VX:=hid (fun wx (g:Sc m p la ll a1 a2 c1 c2 w wx)=>yt m p v wx g.sb.mb.mod (by omega));have HN:=hid (fun fb hh=>cmp_no (m:=m) (la:=la) (ll:=ll) (v:=v) (fb:=fb) hh);obtain ⟨fb,hfb⟩:=ex2 (fit2 m la ll);obtain ⟨sb,hsb⟩:=ex2 (stands m v)
 cases fb
 . rw [hfb] at FT |-
   have HX:=hid (HN.o false (.inl rfl));unfold stV at *;clear h h0 h1 h2 hfb hsb HN VX;go_enter func146,ntmps146;obtain ⟨x0,x1,x2,x3,x4,x5,_⟩:=HC.o.sb.mb.box;obtain ⟨y0,y1,y2,y3,y4,y5⟩:=HC.o.sb.y;have d0:=HC.o.d0;have d1:=HC.o.d1;go_wp2_with fail;(with_reducible refine (FT.o _ HC.o).mono ?_);rintro e w2 ⟨rfl,g2⟩;go_wp2_with fail;go_ret;exact ⟨by rw [HX.o];first | done | rfl,(HC.o.zf g2).sb.mb.bel⟩
 cases sb
 . rw [hfb] at FT |-
   rw [hsb] at VX;have HX:=hid (HN.o true (.inr (.inl (stand_no hsb))));unfold stV at *;clear h h0 h1 h2 hfb hsb HN;go_enter func146,ntmps146;obtain ⟨x0,x1,x2,x3,x4,x5,_⟩:=HC.o.sb.mb.box;obtain ⟨y0,y1,y2,y3,y4,y5⟩:=HC.o.sb.y;have d0:=HC.o.d0;have d1:=HC.o.d1;go_wp2_with fail;(with_reducible refine (FT.o _ HC.o).mono ?_);rintro e w2 ⟨rfl,g2⟩;have HC2:=hid (HC.o.zf g2);clear x0 x1 x2 x3 x4 x5 y0 y1 y2 y3 y4 y5 d0 d1 HC FT g2;obtain ⟨x0,x1,x2,x3,x4,x5,_⟩:=HC2.o.sb.mb.box;obtain ⟨y0,y1,y2,y3,y4,y5⟩:=HC2.o.sb.y;go_wp2_with fail;(with_reducible refine (VX.o _ HC2.o).mono ?_);rintro e w3 ⟨rfl,g3⟩;go_wp2_with fail;go_ret;exact ⟨by rw [HX.o];first | done | rfl,(HC2.o.zf g3).sb.mb.bel⟩
 obtain ⟨k,hk,rfl,_⟩:=zD h0 hsb;obtain ⟨b4,o4,ea,_⟩:=h.zc.get hk;obtain ⟨q1,s1,q2,s2,q3,s3,q4,s4,q5,s5⟩:=p;dsimp only at ea;subst ea;rw [hfb];exact zaS m la ll a1 a2 c1 c2 k q1 s1 q2 s2 q3 s3 b4 o4 s4 q5 s5 w h h0 h1 h2 hfb hk hsb hvl hrl
theorem zef {Q:Nat->BP} (m:MdlD) (p:Ph) (la ll:List Int) (a1 a2:Option Addr) (c1 c2:Nat) (r:Int) (w:World) (h:Mod Q w m p) (h0:riM m=(0,0,0)) (h1:RowIn w (.slice a1 la.length c1) la) (h2:RowIn w (.slice a2 ll.length c2) ll) (b1:la.length<=1000000) (b2:ll.length<=1000000) (hvl:m.zc.length<=100) (hrl:m.zb.length<=100) :
   Calls prog 140 #[stV m p,.agg #[.slice a1 la.length c1,.slice a2 ll.length c2],.int .i64 r] w (RowP (exitsM m la ll r) w):=by
 have HC:=hid (Sc.made (ll:=ll) (a2:=a2) (c2:=c2) h h1);have FT:=hid (fun wx (g:Sc m p la ll a1 a2 c1 c2 w wx)=>yH m p la ll a1 a2 c1 c2 wx g.sb.mb.mod h0 g.r1 (h2.zf g.sb.mb.bel) b1 b2 (by omega) (by omega));obtain ⟨fb,hfb⟩:=ex2 (fit2 m la ll)
 cases fb
 . have hX:exitsM m la ll r=[]:=by unfold exitsM;rw [hfb];rfl
   rw [hX];rw [hfb] at FT;unfold RowP;unfold stV at *;clear h h0 h1 h2 hfb hX;go_enter func140,ntmps140;obtain ⟨x0,x1,x2,x3,x4,x5,_⟩:=HC.o.sb.mb.box;obtain ⟨y0,y1,y2,y3,y4,y5⟩:=HC.o.sb.y;have d0:=HC.o.d0;have d1:=HC.o.d1;go_wp2_with fail;(with_reducible refine (FT.o _ HC.o).mono ?_);rintro e w2 ⟨rfl,g2⟩;have HC2:=hid (HC.o.zf g2);go_wp2_with fail;go_ret;exact ⟨_,rfl,World.ownsRow_nil _ _ _ _,HC2.o.sb.mb.bel⟩
 obtain ⟨F,F2⟩:=ja h0 hfb
 cases hr:hasR m r with
 | true =>
  obtain ⟨k,rfl,hk⟩:=jf hr;have hX:exitsM m la ll k=exF m la 66 k:=by unfold exitsM;rw [hfb,hr];rfl
  rw [hX];exact zaR m p la ll a1 a2 c1 c2 F F2 hvl hrl 66 k Q w hk (fun _ _=>by omega) h h1 h2
 | false =>
  have hX:exitsM m la ll r=[]:=by unfold exitsM;rw [hfb,hr];rfl
  rw [hX];rw [hfb] at FT;unfold RowP;unfold stV at *;unfold hasR at hr;have hlr:(la.length:Int)=m.zb.length:=by rw [F.hl]
  by_cases hr0:r<0
  . clear h h0 h1 h2 hfb hX F F2 hr hlr
    go_enter func140,ntmps140;obtain ⟨x0,x1,x2,x3,x4,x5,_⟩:=HC.o.sb.mb.box;obtain ⟨y0,y1,y2,y3,y4,y5⟩:=HC.o.sb.y;have d0:=HC.o.d0;have d1:=HC.o.d1;go_wp2_with fail;(with_reducible refine (FT.o _ HC.o).mono ?_);rintro e w2 ⟨rfl,g2⟩;have HC2:=hid (HC.o.zf g2);go_wp2_with fail;go_ret;exact ⟨_,rfl,World.ownsRow_nil _ _ _ _,HC2.o.sb.mb.bel⟩
  . have hr1:(la.length:Int)<=r:=by
      rw [hlr];rw [decide_eq_true (show (0:Int)<=r by omega),Bool.true_and,decide_eq_false_iff_not] at hr;omega
    clear h h0 h1 h2 hfb hX F F2 hr hlr;go_enter func140,ntmps140;obtain ⟨x0,x1,x2,x3,x4,x5,_⟩:=HC.o.sb.mb.box;obtain ⟨y0,y1,y2,y3,y4,y5⟩:=HC.o.sb.y;have d0:=HC.o.d0;have d1:=HC.o.d1;go_wp2_with fail;(with_reducible refine (FT.o _ HC.o).mono ?_);rintro e w2 ⟨rfl,g2⟩;have HC2:=hid (HC.o.zf g2);clear x0 x1 x2 x3 x4 x5 y0 y1 y2 y3 y4 y5 d0 d1;have d0:=HC2.o.d0;go_wp2_with fail;go_ret;exact ⟨_,rfl,World.ownsRow_nil _ _ _ _,HC2.o.sb.mb.bel⟩
structure Ans where
 a:List Int
 l:List Int
 e:Nat
def ansOf (E:Nat) (ok:Bool) (la ll:List Int):Ans:=if E=0 then (if ok then ⟨la,ll,0⟩ else ⟨[],[],4⟩) else ⟨[],[],E⟩
def AnsO (A:Ans) (w:World) (e:Ending) (w':World):Prop:=∃ u1 t1 u2 t2,e=.returned (.tuple #[.agg #[.slice u1 A.a.length t1,.slice u2 A.l.length t2],.int .i64 (A.e:Int)])/\Bl w w'/\w'.ownsRow w.heap.size 3 1 (.slice u1 A.a.length t1) A.a.length (nums A.a)/\w'.ownsRow w.heap.size 3 1 (.slice u2 A.l.length t2) A.l.length (nums A.l)
def AnsR (A:Ans) (w:World) (e:Ending) (w':World):Prop:=∃ u1 t1 u2 t2,e=.returned (.tuple #[.agg #[.slice u1 A.a.length t1,.slice u2 A.l.length t2],.int .i64 (A.e:Int)])/\Bl w w'/\RowIn w' (.slice u1 A.a.length t1) A.a/\RowIn w' (.slice u2 A.l.length t2) A.l
theorem zdm (E:Nat) {w w':World} (hb:Bl w w'):AnsO ⟨[],[],E⟩ w (.returned (.tuple #[.agg #[.slice none 0 0,.slice none 0 0],.int .i64 (E:Int)])) w' :=
 ⟨none,0,none,0,rfl,hb,World.ownsRow_nil _ _ _ _,World.ownsRow_nil _ _ _ _⟩
theorem zdn (E:Nat) {w w':World} (hb:Bl w w'):AnsR ⟨[],[],E⟩ w (.returned (.tuple #[.agg #[.slice none 0 0,.slice none 0 0],.int .i64 (E:Int)])) w' :=
 ⟨none,0,none,0,rfl,hb,.inl ⟨_,_,rfl,rfl⟩,.inl ⟨_,_,rfl,rfl⟩⟩
theorem zeK {E:Nat} {ok:Bool} {la ll:List Int} {w w':World} {e:Ending} (h:StepR E ok la ll w e w'):AnsR (ansOf E ok la ll) w e w':=by
 obtain ⟨hb,(⟨hn,rfl⟩ | ⟨rfl,rfl,rfl⟩ | ⟨rfl,rfl,a1,k1,a2,k2,rfl,h1,h2⟩)⟩:=h
 . unfold ansOf;rw [if_neg hn];exact zdn E hb
 . exact zdn 4 hb
 . exact ⟨a1,k1,a2,k2,rfl,hb,h1,h2⟩
theorem zeL {E:Nat} {ok:Bool} {la ll la' ll':List Int} {w w':World} {e:Ending} (e1:la.length=la'.length) (e2:ll.length=ll'.length)
   (h:Bl w w'/\((E≠0/\e=.returned (.tuple #[.agg #[.slice none 0 0,.slice none 0 0],.int .i64 (E:Int)]))\/(E=0/\ok=false/\e=.returned (.tuple #[.agg #[.slice none 0 0,.slice none 0 0],.int .i64 4])) \/
     (E=0/\ok=true/\∃ v1 v2,e=.returned (.tuple #[.agg #[v1,v2],.int .i64 0])/\w'.ownsRow w.heap.size 3 1 v1 la.length (nums la')/\w'.ownsRow w.heap.size 3 1 v2 ll.length (nums ll')/\∀ g,v1.ownBlock=some g->v2.ownBlock≠some g))):AnsO (ansOf E ok la' ll') w e w':=by
 obtain ⟨hb,(⟨hn,rfl⟩ | ⟨rfl,rfl,rfl⟩ | ⟨rfl,rfl,v1,v2,rfl,h1,h2,_⟩)⟩:=h
 . unfold ansOf;rw [if_neg hn];exact zdm E hb
 . exact zdm 4 hb
 . rw [e1] at h1
   rw [e2] at h2;obtain ⟨u1,t1,rfl⟩:=zj h1;obtain ⟨u2,t2,rfl⟩:=zj h2;exact ⟨u1,t1,u2,t2,rfl,hb,h1,h2⟩
def entA (m:MdlD) (la ll:List Int) (v:Int):Ans:=ansOf (mayE m la ll v) (enterOk m la v) (la.set (rgA m v).toNat v) ll
def leaA (m:MdlD) (la ll:List Int) (v:Int):Ans:=ansOf (mayE m la ll v) (leaveOk m la v) (la.set (rgA m v).toNat (-1)) (ll.set (rgA m v).toNat v)
theorem zeM (E:Nat) (ok:Bool) (la ll:List Int):(ansOf E ok la ll).a.length<=la.length/\(ansOf E ok la ll).l.length<=ll.length:=by
 unfold ansOf
 split
 . split <;> simp
 . simp
theorem jc (a b:List Int):sameC a b a b=true:=by unfold sameC;simp
theorem act_same {m:MdlD} (h0:riM m=(0,0,0)) (la ll:List Int):actX m la ll=actC m la ll:=by
 unfold actX actC
 cases h:fit2 m la ll with
 | false=>rfl
 | true=>rw [if_pos rfl,if_pos rfl,act_eq (ja h0 h).1]
theorem actC_len {m:MdlD} (h0:riM m=(0,0,0)) (la ll:List Int):(actC m la ll).length<=m.zc.length:=by
 unfold actC
 cases h:fit2 m la ll with
 | false=>simp
 | true=>rw [if_pos rfl];exact actS_len (ja h0 h).1
theorem zbR {w w4:World} {N n:Nat} {T:TypeId} {v:Value} {xs:List Value} {o:Obj} {r:Option Nat} (h:w.ownsRow N T 1 v n xs) (hg:(w.alloc o).grownBy w4 r) (hne:∀ g,v.ownBlock=some g->r≠some g):w4.ownsRow N T 1 v n xs:=by
 obtain ⟨h1,h2⟩:=h;refine ⟨h1,?_⟩
 rcases h2 with h2 | ⟨g,cap,cur,e,hb,hgc,r'⟩
 . exact .inl h2
 . have hl:=(Array.getElem?_eq_some_iff.1 hgc).1
   refine .inr ⟨g,cap,cur,e,hb,?_,r'⟩;rw [hg.block g (by simp;omega) (fun e'=>hne g (by rw [e];rfl) e'.symm),Below.heap_alloc _ _ _ hl];exact hgc
structure Bkr (m:MdlD) (p:Ph) (k1 k2:Nat) (v1 v2:Value) (w wr:World):Prop where
 sb:Sb m p w.heap.size w wr
 r0:wr.cell? ⟨w.heap.size+1,0,none⟩=some (.slice none 0 0)
 r1:wr.cell? ⟨w.heap.size+1,1,none⟩=some (.slice none 0 0)
 q0:wr.frozen? ⟨w.heap.size+1,0,none⟩=false
 q1:wr.frozen? ⟨w.heap.size+1,1,none⟩=false
 c0:wr.cell? ⟨w.heap.size+1+1,0,none⟩=some v1
 c1:wr.cell? ⟨w.heap.size+1+1,1,none⟩=some v2
 f0:wr.frozen? ⟨w.heap.size+1+1,0,none⟩=false
 f1:wr.frozen? ⟨w.heap.size+1+1,1,none⟩=false
 o1:wr.ownsRow (w.heap.size+3) 3 1 v1 k1 (nums (List.replicate k1 (-1)))
 o2:wr.ownsRow (w.heap.size+3) 3 1 v2 k2 (nums (List.replicate k2 (-1)))
 ap:∀ g,v1.ownBlock=some g->v2.ownBlock≠some g
 sz:w.heap.size+3<=wr.heap.size
section
variable {m:MdlD} {p:Ph} {k1 k2:Nat} {v1 v2 v4:Value} {w wr w4:World} {o:Obj}
theorem Sb.low {wx wy:World} (h:Sb m p w.heap.size w wx) (g:Below (w.heap.size+1) wx wy):Sb m p w.heap.size w wy:=by
 obtain ⟨y0,y1,y2,y3,y4,y5⟩:=h.y;exact ⟨h.mb.low g,(g.cell (p:=⟨w.heap.size,6,none⟩) (by simp)).trans y0,(g.cell (p:=⟨w.heap.size,7,none⟩) (by simp)).trans y1,(g.cell (p:=⟨w.heap.size,8,none⟩) (by simp)).trans y2,(g.cell (p:=⟨w.heap.size,9,none⟩) (by simp)).trans y3,(g.cell (p:=⟨w.heap.size,10,none⟩) (by simp)).trans y4,(g.cell (p:=⟨w.heap.size,11,none⟩) (by simp)).trans y5⟩
theorem Bkr.push1 (h:Bkr m p k1 k2 v1 v2 w wr) (hg:(wr.alloc o).grownBy w4 v1.ownBlock) (ho:w4.ownsRow (w.heap.size+3) 3 1 v4 (k1+1) (nums (List.replicate (k1+1) (-1)))) (hn:Nxt v1 v4 (wr.alloc o).heap.size):Bkr m p (k1+1) k2 v4 v2 w (w4.setCell ⟨w.heap.size+1+1,0,none⟩ v4):=by
 have hz:=h.sz;have G3:Below (w.heap.size+3) wr w4:=((Below.refl _ _).alloc hz o).grown hg (by simp;omega) (fun q hq=>(h.o1.lt q hq).1);have G2:Below (w.heap.size+1+1) wr (w4.setCell ⟨w.heap.size+1+1,0,none⟩ v4):=(show Below (w.heap.size+1+1) wr w4 from G3.mono (by omega)).setCell (p:=⟨w.heap.size+1+1,0,none⟩) (Nat.le_refl _) v4;have c0:=(G3.cell (p:=⟨w.heap.size+1+1,0,none⟩) (by simp only;omega)).trans h.c0;have c1:=(G3.cell (p:=⟨w.heap.size+1+1,1,none⟩) (by simp only;omega)).trans h.c1;have f0:=(G3.frozen (p:=⟨w.heap.size+1+1,0,none⟩) (by simp only;omega)).trans h.f0;have f1:=(G3.frozen (p:=⟨w.heap.size+1+1,1,none⟩) (by simp only;omega)).trans h.f1;have o2:=zbR h.o2 hg (fun g hg1 hg2=>h.ap g hg2 hg1)
 refine ⟨h.sb.low (G2.mono (by omega)),(G2.cell (p:=⟨w.heap.size+1,0,none⟩) (by simp only;omega)).trans h.r0,(G2.cell (p:=⟨w.heap.size+1,1,none⟩) (by simp only;omega)).trans h.r1,(G2.frozen (p:=⟨w.heap.size+1,0,none⟩) (by simp only;omega)).trans h.q0,(G2.frozen (p:=⟨w.heap.size+1,1,none⟩) (by simp only;omega)).trans h.q1,World.cell?_setCell_same _ _ _ c0,(World.cell?_setCell_other _ _ _ _ (by simp)).trans c1,by rw [World.frozen?_setCell];exact f0,by rw [World.frozen?_setCell];exact f1,
   ownsRow_setCell_below (a:=⟨w.heap.size+1+1,0,none⟩) ho (by simp only;omega) _,ownsRow_setCell_below (a:=⟨w.heap.size+1+1,0,none⟩) o2 (by simp only;omega) _,fun g h4 h2=>?_,by have:=G3.size;rw [World.size_setCell];omega⟩
 rcases hn with hn | hn
 . exact h.ap g (hn ▸ h4) h2
 . have e1:=hn g h4
   have e2:=(h.o2.lt g h2).2;simp at e1;omega
theorem Bkr.push2 (h:Bkr m p k1 k2 v1 v2 w wr) (hg:(wr.alloc o).grownBy w4 v2.ownBlock) (ho:w4.ownsRow (w.heap.size+3) 3 1 v4 (k2+1) (nums (List.replicate (k2+1) (-1)))) (hn:Nxt v2 v4 (wr.alloc o).heap.size):Bkr m p k1 (k2+1) v1 v4 w (w4.setCell ⟨w.heap.size+1+1,1,none⟩ v4):=by
 have hz:=h.sz;have G3:Below (w.heap.size+3) wr w4:=((Below.refl _ _).alloc hz o).grown hg (by simp;omega) (fun q hq=>(h.o2.lt q hq).1);have G2:Below (w.heap.size+1+1) wr (w4.setCell ⟨w.heap.size+1+1,1,none⟩ v4):=(show Below (w.heap.size+1+1) wr w4 from G3.mono (by omega)).setCell (p:=⟨w.heap.size+1+1,1,none⟩) (Nat.le_refl _) v4;have c0:=(G3.cell (p:=⟨w.heap.size+1+1,0,none⟩) (by simp only;omega)).trans h.c0;have c1:=(G3.cell (p:=⟨w.heap.size+1+1,1,none⟩) (by simp only;omega)).trans h.c1;have f0:=(G3.frozen (p:=⟨w.heap.size+1+1,0,none⟩) (by simp only;omega)).trans h.f0;have f1:=(G3.frozen (p:=⟨w.heap.size+1+1,1,none⟩) (by simp only;omega)).trans h.f1;have o1:=zbR h.o1 hg (fun g hg1 hg2=>h.ap g hg1 hg2)
 refine ⟨h.sb.low (G2.mono (by omega)),(G2.cell (p:=⟨w.heap.size+1,0,none⟩) (by simp only;omega)).trans h.r0,(G2.cell (p:=⟨w.heap.size+1,1,none⟩) (by simp only;omega)).trans h.r1,(G2.frozen (p:=⟨w.heap.size+1,0,none⟩) (by simp only;omega)).trans h.q0,(G2.frozen (p:=⟨w.heap.size+1,1,none⟩) (by simp only;omega)).trans h.q1,(World.cell?_setCell_other _ _ _ _ (by simp)).trans c0,World.cell?_setCell_same _ _ _ c1,by rw [World.frozen?_setCell];exact f0,by rw [World.frozen?_setCell];exact f1,
   ownsRow_setCell_below (a:=⟨w.heap.size+1+1,1,none⟩) o1 (by simp only;omega) _,ownsRow_setCell_below (a:=⟨w.heap.size+1+1,1,none⟩) ho (by simp only;omega) _,fun g h1 h4=>?_,by have:=G3.size;rw [World.size_setCell];omega⟩
 rcases hn with hn | hn
 . exact h.ap g h1 (hn ▸ h4)
 . have e1:=hn g h4
   have e2:=(h.o1.lt g h1).2;simp at e1;omega
end
theorem Bkr.made {Q:Nat->BP} {m:MdlD} {p:Ph} {w:World} (h:Mod Q w m p) :
   Bkr m p 0 0 (.slice none 0 0) (.slice none 0 0) w (((w.alloc (.cells #[.string m.nm,.slice p.a1 m.vars.length p.c1,.slice p.a2 m.za.length p.c2,.slice p.a3 m.zb.length p.c3,.slice p.a4 m.zc.length p.c4,.slice p.a5 m.ze.length p.c5,.string m.nm,.slice p.a1 m.vars.length p.c1,.slice p.a2 m.za.length p.c2,.slice p.a3 m.zb.length p.c3,.slice p.a4 m.zc.length p.c4,.slice p.a5 m.ze.length p.c5] 168)).alloc (.cells #[.slice none 0 0,.slice none 0 0] 150)).alloc (.cells #[.slice none 0 0,.slice none 0 0] 150)):=by
 have hs:=Sb.made h;have e2:=World.alloc_heap_new (w.alloc (.cells #[.string m.nm,.slice p.a1 m.vars.length p.c1,.slice p.a2 m.za.length p.c2,.slice p.a3 m.zb.length p.c3,.slice p.a4 m.zc.length p.c4,.slice p.a5 m.ze.length p.c5,.string m.nm,.slice p.a1 m.vars.length p.c1,.slice p.a2 m.za.length p.c2,.slice p.a3 m.zb.length p.c3,.slice p.a4 m.zc.length p.c4,.slice p.a5 m.ze.length p.c5] 168)) (.cells #[.slice none 0 0,.slice none 0 0] 150);have e3:=World.alloc_heap_new ((w.alloc (.cells #[.string m.nm,.slice p.a1 m.vars.length p.c1,.slice p.a2 m.za.length p.c2,.slice p.a3 m.zb.length p.c3,.slice p.a4 m.zc.length p.c4,.slice p.a5 m.ze.length p.c5,.string m.nm,.slice p.a1 m.vars.length p.c1,.slice p.a2 m.za.length p.c2,.slice p.a3 m.zb.length p.c3,.slice p.a4 m.zc.length p.c4,.slice p.a5 m.ze.length p.c5] 168)).alloc (.cells #[.slice none 0 0,.slice none 0 0] 150)) (.cells #[.slice none 0 0,.slice none 0 0] 150);rw [show (w.alloc (.cells #[.string m.nm,.slice p.a1 m.vars.length p.c1,.slice p.a2 m.za.length p.c2,.slice p.a3 m.zb.length p.c3,.slice p.a4 m.zc.length p.c4,.slice p.a5 m.ze.length p.c5,.string m.nm,.slice p.a1 m.vars.length p.c1,.slice p.a2 m.za.length p.c2,.slice p.a3 m.zb.length p.c3,.slice p.a4 m.zc.length p.c4,.slice p.a5 m.ze.length p.c5] 168)).heap.size=w.heap.size+1 by simp] at e2;rw [show ((w.alloc (.cells #[.string m.nm,.slice p.a1 m.vars.length p.c1,.slice p.a2 m.za.length p.c2,.slice p.a3 m.zb.length p.c3,.slice p.a4 m.zc.length p.c4,.slice p.a5 m.ze.length p.c5,.string m.nm,.slice p.a1 m.vars.length p.c1,.slice p.a2 m.za.length p.c2,.slice p.a3 m.zb.length p.c3,.slice p.a4 m.zc.length p.c4,.slice p.a5 m.ze.length p.c5] 168)).alloc (.cells #[.slice none 0 0,.slice none 0 0] 150)).heap.size=w.heap.size+1+1 by simp] at e3;have f2:=((zg ((w.alloc (.cells #[.string m.nm,.slice p.a1 m.vars.length p.c1,.slice p.a2 m.za.length p.c2,.slice p.a3 m.zb.length p.c3,.slice p.a4 m.zc.length p.c4,.slice p.a5 m.ze.length p.c5,.string m.nm,.slice p.a1 m.vars.length p.c1,.slice p.a2 m.za.length p.c2,.slice p.a3 m.zb.length p.c3,.slice p.a4 m.zc.length p.c4,.slice p.a5 m.ze.length p.c5] 168)).alloc (.cells #[.slice none 0 0,.slice none 0 0] 150)) (.cells #[.slice none 0 0,.slice none 0 0] 150)).block (w.heap.size+1) (by simp)).trans e2;exact ⟨(hs.zf (zg _ _)).zf (zg _ _),zh f2 0,zh f2 1,qx f2 0,qx f2 1,zh e3 0,zh e3 1,qx e3 0,qx e3 1,World.ownsRow_nil _ _ _ _,World.ownsRow_nil _ _ _ _,fun g hg=>(by cases hg),by simp⟩
theorem zeg {Q:Nat->BP} (m:MdlD) (p:Ph) (w:World) (h:Mod Q w m p) (hrl:m.zb.length<=1000) :
   Calls prog 151 #[stV m p] w (RefC (List.replicate m.zb.length (-1)) (List.replicate m.zb.length (-1)) w):=by
 obtain ⟨iI,hiI,zI0,zI1,zI2⟩:=info_parts zS;have HK:=hid (Bkr.made h);have HRp:Hid (∀ k:Nat,List.replicate k (-1:Int) ++ [-1]=List.replicate (k+1) (-1)):=hid fun k=>List.replicate_succ'.symm;unfold RefC;unfold stV at *;clear h;go_enter func151,ntmps151;go_upto_region 2 with fail;generalize (((w.alloc (.cells #[.string m.nm,.slice p.a1 m.vars.length p.c1,.slice p.a2 m.za.length p.c2,.slice p.a3 m.zb.length p.c3,.slice p.a4 m.zc.length p.c4,.slice p.a5 m.ze.length p.c5,.string m.nm,.slice p.a1 m.vars.length p.c1,.slice p.a2 m.za.length p.c2,.slice p.a3 m.zb.length p.c3,.slice p.a4 m.zc.length p.c4,.slice p.a5 m.ze.length p.c5] 168)).alloc (.cells #[.slice none 0 0,.slice none 0 0] 150)).alloc (.cells #[.slice none 0 0,.slice none 0 0] 150))=W3 at *;go_wp2_with fail
 go_loopw [4] (fun i wr=>∃ k:Nat,k<=m.zb.length/\i=.int .i64 k/\∃ v1 v2,Bkr m p k k v1 v2 w wr) (fun i _=>m.zb.length - (intOf i).toNat)
 case atStart=>exact ⟨0,by omega,rfl,_,_,HK.o⟩
 case round =>
  obtain ⟨wo,rfl⟩:=ex1 wr;obtain ⟨k,hk,rfl,v1,v2,hb⟩:=hrel;have HBo:=hid hb;obtain ⟨a1,c1,rfl⟩:=zj hb.o1;obtain ⟨a2,c2,rfl⟩:=zj hb.o2;clear hb HK;obtain ⟨_,r0,r1,q0,q1,p0,p1,f0,f1,_,_,_,hz⟩:=HBo.o;obtain ⟨x0,x1,x2,x3,x4,x5,_⟩:=HBo.o.sb.mb.box
  by_cases hlt:k<m.zb.length
  . have hI:(k:Int)<(m.zb.length:Int):=by omega
    go_upto_region 6 with (at_builtin;refine zn _ rfl _ _ 31 rfl 3 (w.heap.size+3) iI (.int .i64 0) underlying31 hiI zI0 zI1 zI2 rfl _ (List.replicate k (-1)) rfl (by rw [List.length_replicate];exact HBo.o.o1.alloc _) _ [-1] rfl (row1 _ _ _) (by simp;omega) (by simp;omega) ?_;intro v4 w4 hown4 hgrow4 hnxt4;rw [HRp.o,List.length_replicate] at hown4;have HB4:=hid (HBo.o.push1 hgrow4 hown4 hnxt4);have t0:=(((Below.refl _ _).alloc hz _).grown hgrow4 (by simp;omega) (fun q hq=>(HBo.o.o1.lt q hq).1):Below (w.heap.size+3) wo w4);have s0:=(t0.cell (p:=⟨w.heap.size+1+1,0,none⟩) (by simp only;omega)).trans p0;have s1:=(t0.frozen (p:=⟨w.heap.size+1+1,0,none⟩) (by simp only;omega)).trans f0;obtain ⟨a4,c4,rfl⟩:=zj hown4;clear t0 hown4 hgrow4 hnxt4);generalize w4.setCell ⟨w.heap.size+1+1,0,none⟩ (.slice a4 (k+1) c4)=W5 at *;clear x0 x1 x2 x3 x4 x5 r0 r1 q0 q1 p0 p1 f0 f1 s0 s1 hz HBo;obtain ⟨_,r0,r1,q0,q1,p0,p1,f0,f1,_,_,_,hz⟩:=HB4.o;go_wp2_with (at_builtin;refine zn _ rfl _ _ 31 rfl 3 (w.heap.size+3) iI (.int .i64 0) underlying31 hiI zI0 zI1 zI2 rfl _ (List.replicate k (-1)) rfl (by rw [List.length_replicate];exact HB4.o.o2.alloc _) _ [-1] rfl (row1 _ _ _) (by simp;omega) (by simp;omega) ?_;intro v6 w6 hown6 hgrow6 hnxt6;rw [HRp.o,List.length_replicate] at hown6;have HB6:=hid (HB4.o.push2 hgrow6 hown6 hnxt6);have t0:=(((Below.refl _ _).alloc hz _).grown hgrow6 (by simp;omega) (fun q hq=>(HB4.o.o2.lt q hq).1):Below (w.heap.size+3) W5 w6);have s0:=(t0.cell (p:=⟨w.heap.size+1+1,1,none⟩) (by simp only;omega)).trans p1;have s1:=(t0.frozen (p:=⟨w.heap.size+1+1,1,none⟩) (by simp only;omega)).trans f1;obtain ⟨a6,c6,rfl⟩:=zj hown6;clear t0 hown6 hgrow6 hnxt6);go_roundw
    case rel=>exact ⟨k+1,by omega,by go_num,_,_,HB6.o⟩
    case measure=>simp [intOf] <;> omega
  . obtain rfl:k=m.zb.length:=by omega
    go_wp2_with fail;have k1:=(ownsRow_setCell_below (a:=⟨w.heap.size+1,1,none⟩) (ownsRow_setCell_below (a:=⟨w.heap.size+1,0,none⟩) HBo.o.o1 (by simp) (.slice a1 m.zb.length c1)) (by simp) (.slice a2 m.zb.length c2)).mono (show w.heap.size<=w.heap.size+3 by omega);have k2:=(ownsRow_setCell_below (a:=⟨w.heap.size+1,1,none⟩) (ownsRow_setCell_below (a:=⟨w.heap.size+1,0,none⟩) HBo.o.o2 (by simp) (.slice a1 m.zb.length c1)) (by simp) (.slice a2 m.zb.length c2)).mono (show w.heap.size<=w.heap.size+3 by omega);have kb:=(HBo.o.sb.mb.bel.setCell (p:=⟨w.heap.size+1,0,none⟩) (by simp) (.slice a1 m.zb.length c1)).setCell (p:=⟨w.heap.size+1,1,none⟩) (by simp) (.slice a2 m.zb.length c2);refine bodyPost_ret (v:=.agg #[.slice a1 m.zb.length c1,.slice a2 m.zb.length c2]) (by simp [results,results151,go_sem,r0,r1]) rfl ⟨_,_,rfl,by rw [List.length_replicate];exact k1,by rw [List.length_replicate];exact k2,kb⟩
end Go.Proofs
