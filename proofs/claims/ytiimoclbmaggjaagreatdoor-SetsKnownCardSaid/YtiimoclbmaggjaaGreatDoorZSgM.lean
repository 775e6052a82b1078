/- Walks: the law 'SetsEnter'. -/
import Derived.Test.YtiimoclbmaggjaaGreatDoorZSgTV
import Derived.Test.YtiimoclbmaggjaaGreatDoorZSgW
namespace Go.Proofs
open Go.RowKit Go.Lx Go.Md Go.Shelf Go.BigFrame Go.Rgi
open Lib(hid)
open Go.Proofs.Tryz
set_option maxRecDepth 100000
set_option maxHeartbeats 0
set_option linter.unusedVariables false
structure Dw (m:MdlD) (Hd n1 n2:Nat) (la:List Int) (w8 wr:World):Prop where
 bel:Bl w8 wr
 hd:w8.heap.size<=Hd
 db:∃ y1 z1 y2 z2 l',Bx Hd y1 n1 z1 y2 n2 z2 wr/\CfgAt la l' y1 n1 z1 y2 n2 z2 wr/\Fit m l'
structure Le (m:MdlD) (p pr:Ph) (B SB Hr:Nat) (la ll X:List Int) (a1:Option Addr) (n1 c1:Nat) (a2:Option Addr) (n2 c2 Hc:Nat) (xa:Option Addr) (nw xc N:Nat) (w w4 wr:World):Prop where
 mb:Mb m p w.heap.size w wr
 st:SetAt B m SB wr
 sb:Sb m pr Hr w4 wr
 cb:Bx Hc a1 n1 c1 a2 n2 c2 wr
 cf:CfgAt la ll a1 n1 c1 a2 n2 c2 wr
 ox:wr.ownsRow N 3 1 (.slice xa nw xc) nw (nums X)
theorem Le.zf {m:MdlD} {p pr:Ph} {B SB Hr:Nat} {la ll X:List Int} {a1:Option Addr} {n1 c1:Nat} {a2:Option Addr} {n2 c2 Hc:Nat} {xa:Option Addr} {nw xc N:Nat} {w w4 wr wy:World} (h:Le m p pr B SB Hr la ll X a1 n1 c1 a2 n2 c2 Hc xa nw xc N w w4 wr) (g:Bl wr wy):Le m p pr B SB Hr la ll X a1 n1 c1 a2 n2 c2 Hc xa nw xc N w w4 wy :=
 ⟨h.mb.zf g,h.st.grown g,h.sb.zf g,h.cb.zf g,h.cf.zf g,zu h.ox g⟩
theorem entX_reg {m:MdlD} (h0:riM m=(0,0,0)) {r e:Int} (h:entX m r e≠[]):∃ k:Nat,r=k/\k<m.zb.length:=by
 unfold entX at h
 split at h
 . exact absurd rfl h
 . unfold entM at h
   split at h
   . rename_i hin
     exact jf (zaH h0 hin)
   . exact absurd rfl h
theorem ka {m:MdlD} {la ll:List Int} (F:Fit m la) (F2:Fit m ll) {k:Nat} (hk:k<m.zb.length):exitsM m la ll (k:Int)=exM m la k:=by
 unfold exitsM;rw [kV F F2,zeD hk];rfl
theorem zeb {m:MdlD} {la ll:List Int} (F:Fit m la) (F2:Fit m ll) {k:Nat} (hk:k<m.zb.length) (h:exitsM m la ll (k:Int)=[]):atL la k<0:=by
 rw [ka F F2 hk] at h;exact ex_nil h
theorem zck {m:MdlD} {c:List Int} {L:List Nat} {i:Nat} (hi:i<L.length):entered m c (L.take (i+1))=(entered m c (L.take i)).set (rgA m (L[i]:Int)).toNat (L[i]:Int):=by
 unfold entered;rw [List.take_succ_eq_append_getElem hi,List.foldl_append];rfl
def enX (m:MdlD) (c X:List Int) (i:Nat):List Int:=(X.take i).foldl (fun (c:List Int) (p:Int)=>c.set (rgA m p).toNat p) c
theorem qZ {m:MdlD} {c:List Int} {L:List Nat} {i:Nat}:enX m c (L.map fun k:Nat=>(k:Int)) i=entered m c (L.take i):=by
 unfold enX entered;rw [<- List.map_take,List.foldl_map]
structure EnX (m:MdlD) (c:List Int) (ll X:List Int) (k:Nat):Prop where
 ok:∀ i (hi:i<X.length),∃ v:Nat,X[i]=v/\stands m v=true/\enterOk m (enX m c X i) v=true/\Fit m (enX m c X i)/\enX m c X (i+1)=(enX m c X i).set (rgA m v).toNat v
 fit:Fit m (enX m c X X.length)
 o:∀ l',Fit m l'->exitsM m (enX m c X X.length) l' k=X.reverse
 back:leftM (enX m c X X.length) X.reverse=c
theorem enX_all {m:MdlD} {c ll:List Int} {r e:Int} {k:Nat} (R:Rch m c) (F2:Fit m ll) (hk:k<m.zb.length) (hr:r=k) (hX:entX m r e≠[]) (hn:atL c k<0) (ho:ownA m k<0\/isA m c (ownA m k)=true):EnX m c ll (entX m r e) k:=by
 rw [kY R.fit.h0] at hX |-;subst hr;obtain ⟨L,eL,hP⟩:=ent_pth R.fit.h0 hk hX;have E:=ent_all R.fit.h0 hP R.fit R.ns hn ho;rw [eL];have el:(L.map fun k:Nat=>(k:Int)).length=L.length:=List.length_map _;refine ⟨fun i hi=>?_,?_,?_,?_⟩
 . have hi':i<L.length:=by rw [<- el];exact hi
   obtain ⟨h1,h2,h3⟩:=E.ok i hi';refine ⟨L[i],by simp,h2,?_,?_,?_⟩
   . rw [qZ];exact h1
   . rw [qZ];exact h3
   . rw [qZ,qZ];exact zck hi'
 . rw [qZ,el,List.take_length];exact E.fit
 . intro l' F'
   rw [qZ,el,List.take_length,ka E.fit F' hk];exact E.o 66 fun p L' _=>by omega
 . rw [qZ,el,List.take_length,left_rev];exact E.back
theorem zbe {Q:Nat->BP} (m:MdlD) (p:Ph) (l:List Int) (lv:Value) (r en:Int) (w:World) (h:Mod Q w m p) (hm:MdlOk m) (hT:Tab w) (hr:RowIn w lv l) (hl:l.length<=140737488355328) :
   Calls prog 59 #[mdV m p,lv,.int .i64 r,.int .i64 en] w fun e w'=>e=.returned (.bool true)/\Bl w w':=by
 obtain ⟨av,cv,rfl,_,_⟩:=hr.len;have HB:=hid (Mb.made h);have SM:=hid (fun wx (g:Mb m p w.heap.size w wx)=>jk m p wx g.mod hm);have WK:=hid (fun wx (g:Bl w wx)=>works20 wx (hT.next g));have BT:=hid (fun (hs:Sm20 m) wx (g:Mb m p w.heap.size w wx)=>jK m p wx g.mod hm (hT.next g.bel) hs);have HLr:=hid (fun wx (g:Bl w wx)=>hr.zf g);have hvI:=hm.zc;obtain ⟨nl,hnl⟩:=ex2 l.length;rw [hnl] at hl HLr |-;have HNl:=hid hnl;unfold mdV at SM BT |-;clear h hm hT hr hnl;go_enter func59,ntmps59;obtain ⟨x0,x1,x2,x3,x4,x5,_⟩:=HB.o.box;go_wp2_with fail;(with_reducible refine (SM.o _ HB.o).mono ?_);rintro e w3 ⟨⟨b1,rfl,s1⟩,g3⟩;have HB3:=hid (HB.o.zf g3);have HSt:=hid s1;clear s1 g3 HB SM x0 x1 x2 x3 x4 x5
 cases b1
 . go_wp2_with fail
   (with_reducible refine (WK.o _ HB3.o.bel).mono ?_);rintro e w4 ⟨rfl,g4⟩;go_wp2_with fail;go_ret;exact ⟨rfl,(HB3.o.zf g4).bel⟩
 have hS:=hid (HSt.o rfl);have BTs:=hid (BT.o hS.o);clear HSt BT;obtain ⟨x0,x1,x2,x3,x4,x5,_⟩:=HB3.o.box
 by_cases h60:nl<=60
 rotate_left
 . have d60:decide ((60:Int)<(nl:Int))=true:=by simp;omega
   go_wp2_with fail;(with_reducible refine (WK.o _ HB3.o.bel).mono ?_);rintro e w4 ⟨rfl,g4⟩;go_wp2_with fail;go_ret;exact ⟨rfl,(HB3.o.zf g4).bel⟩
 have d60:decide ((60:Int)<(nl:Int))=false:=by simp;omega
 have d60':¬ ((60:Int)<(nl:Int)):=by omega
 go_wp2_with fail;(with_reducible refine (BTs.o _ HB3.o).mono ?_);rintro e w4 ⟨g4,pr,(⟨hr0,SB,rfl,hset,hmr⟩ | ⟨hr0,rfl⟩)⟩;rotate_left
 . have HB4:Hid (Bl w (w4.alloc (.cells #[.string m.nm,.slice pr.a1 m.vars.length pr.c1,.slice pr.a2 m.za.length pr.c2,.slice pr.a3 m.zb.length pr.c3,.slice pr.a4 m.zc.length pr.c4,.slice pr.a5 m.ze.length pr.c5,.string m.nm,.slice pr.a1 m.vars.length pr.c1,.slice pr.a2 m.za.length pr.c2,.slice pr.a3 m.zb.length pr.c3,.slice pr.a4 m.zc.length pr.c4,.slice pr.a5 m.ze.length pr.c5] 168))):=hid (zi (HB3.o.bel.trans (g4.mono HB3.o.bel.size)) (zg _ _))
   clear x0 x1 x2 x3 x4 x5 g4 HB3 BTs;unfold stV;go_wp2_with fail;(with_reducible refine (WK.o _ HB4.o).mono ?_);rintro e w5 ⟨rfl,g5⟩;go_wp2_with fail;go_ret;exact ⟨rfl,zi HB4.o g5⟩
 have HM5:Hid (Mb m p w.heap.size w (w4.alloc (.cells #[.string m.nm,.slice pr.a1 m.vars.length pr.c1,.slice pr.a2 m.za.length pr.c2,.slice pr.a3 m.zb.length pr.c3,.slice pr.a4 m.zc.length pr.c4,.slice pr.a5 m.ze.length pr.c5,.string m.nm,.slice pr.a1 m.vars.length pr.c1,.slice pr.a2 m.za.length pr.c2,.slice pr.a3 m.zb.length pr.c3,.slice pr.a4 m.zc.length pr.c4,.slice pr.a5 m.ze.length pr.c5] 168))):=hid ((HB3.o.zf g4).zf (zg _ _));have HS5:Hid (SetAt w3.heap.size m SB (w4.alloc (.cells #[.string m.nm,.slice pr.a1 m.vars.length pr.c1,.slice pr.a2 m.za.length pr.c2,.slice pr.a3 m.zb.length pr.c3,.slice pr.a4 m.zc.length pr.c4,.slice pr.a5 m.ze.length pr.c5,.string m.nm,.slice pr.a1 m.vars.length pr.c1,.slice pr.a2 m.za.length pr.c2,.slice pr.a3 m.zb.length pr.c3,.slice pr.a4 m.zc.length pr.c4,.slice pr.a5 m.ze.length pr.c5] 168))):=hid (hset.grown (zg _ _));have HR5:Hid (Sb m pr w4.heap.size w4 (w4.alloc (.cells #[.string m.nm,.slice pr.a1 m.vars.length pr.c1,.slice pr.a2 m.za.length pr.c2,.slice pr.a3 m.zb.length pr.c3,.slice pr.a4 m.zc.length pr.c4,.slice pr.a5 m.ze.length pr.c5,.string m.nm,.slice pr.a1 m.vars.length pr.c1,.slice pr.a2 m.za.length pr.c2,.slice pr.a3 m.zb.length pr.c3,.slice pr.a4 m.zc.length pr.c4,.slice pr.a5 m.ze.length pr.c5] 168))):=hid (Sb.made hmr);have H0:=hid hr0;have hm1:m.zb.length<=1000:=by have:=hS.o.rg;omega
 have hm2:m.zc.length<=1000:=by have:=hS.o.vr;omega
 have hzr:w.heap.size<w4.heap.size:=Nat.lt_of_lt_of_le HB3.o.box.sl g4.size;clear x0 x1 x2 x3 x4 x5 g4 HB3 BTs hset hmr hr0 d60 hS;unfold stV;obtain ⟨Hr,hHr⟩:=ex2 w4.heap.size;rw [hHr] at HR5 hzr;go_upto_region 6 with fail;clear hHr;generalize w4.alloc (.cells #[.string m.nm,.slice pr.a1 m.vars.length pr.c1,.slice pr.a2 m.za.length pr.c2,.slice pr.a3 m.zb.length pr.c3,.slice pr.a4 m.zc.length pr.c4,.slice pr.a5 m.ze.length pr.c5,.string m.nm,.slice pr.a1 m.vars.length pr.c1,.slice pr.a2 m.za.length pr.c2,.slice pr.a3 m.zb.length pr.c3,.slice pr.a4 m.zc.length pr.c4,.slice pr.a5 m.ze.length pr.c5] 168)=W5 at *;have SA:=hid (zbx HS5.o H0.o hm1 hm2 l av cv (by rw [HNl.o];exact HLr.o W5 HM5.o.bel) (by rw [HNl.o];omega));rw [HNl.o] at SA;go_wp2_with fail;(with_reducible refine (SA.o).mono ?_);rintro e w6 ⟨a1,n1,c1,a2,n2,c2,rfl,hok,g6⟩;obtain ⟨la,ll,hcf,hR,hF⟩:=hok.at;have HR:=hid hR;have HF:=hid hF;have hn1:n1<=1000:=by have:=hR.fit.hl;have:=hcf.e1;omega
 have hn2:n2<=1000:=by have:=hF.hl;have:=hcf.e2;omega
 have HM6:Hid (Mb m p w.heap.size w (w6.alloc (.cells #[.slice a1 n1 c1,.slice a2 n2 c2] 74))):=hid ((HM5.o.zf g6).zf (zg _ _));have HS6:Hid (SetAt w3.heap.size m SB (w6.alloc (.cells #[.slice a1 n1 c1,.slice a2 n2 c2] 74))):=hid ((HS5.o.grown g6).grown (zg _ _));have HR6:Hid (Sb m pr Hr w4 (w6.alloc (.cells #[.slice a1 n1 c1,.slice a2 n2 c2] 74))):=hid ((HR5.o.zf g6).zf (zg _ _));have HC6:Hid (CfgAt la ll a1 n1 c1 a2 n2 c2 (w6.alloc (.cells #[.slice a1 n1 c1,.slice a2 n2 c2] 74))):=hid (hcf.zf (zg _ _));have HX6:=hid (Bx.made w6 a1 n1 c1 a2 n2 c2 74);have hzc:Hr<w6.heap.size:=Nat.lt_of_lt_of_le (by have:=HR5.o.mb.box.sl;exact this) g6.size;obtain ⟨Hc,hHc⟩:=ex2 w6.heap.size;rw [hHc] at HX6 hzc;clear SA hok hcf hR hF g6 HM5 HS5 HR5;go_upto_region 7 with fail;clear hHc;generalize w6.alloc (.cells #[.slice a1 n1 c1,.slice a2 n2 c2] 74)=W6 at *;have ENx:=hid (jm HS6.o H0.o r en);unfold RowP at ENx;have HX0:=hid (fun h=>entX_reg (m:=m) H0.o (r:=r) (e:=en) h);have HXa:=hid (fun (k:Nat) hk hr hX hn ho=>enX_all (m:=m) (c:=la) (ll:=ll) (r:=r) (e:=en) (k:=k) HR.o HF.o hk hr hX hn ho);have HXh:=hid (fun x (hx:x ∈ entX m r en)=>(show inM m x r=true by rw [kY H0.o] at hx;exact ent_in hx))
 have HXl:Hid ((entX m r en).length<=1000):=hid (by
   have h1:=zbB H0.o en;rw [kY H0.o];unfold entM
   split
   . rw [List.length_append]
     have h2:=List.length_filter_le (fun v=>inM m v r) (chainM m en);have h3:(if stands m en then [en] else []).length<=1:=by split <;> simp
     omega
   . simp)
 generalize entX m r en=X at *;go_wp2_with fail;(with_reducible refine (ENx.o).mono ?_);rintro e w8 ⟨vx,rfl,ox,g8⟩;obtain ⟨xa,xc,rfl⟩:=zj ox;obtain ⟨nw,hnx⟩:=ex2 X.length;have HNx:=hid hnx;have hxl:nw<=1000:=by have:=HXl.o;omega
 rw [hnx] at ox |-;have HL8:Hid (∀ wx,Bl w8 wx->Le m p pr w3.heap.size SB Hr la ll X a1 n1 c1 a2 n2 c2 Hc xa nw xc W6.heap.size w w4 wx):=hid fun wx g=>Le.zf ⟨HM6.o.zf g8,HS6.o.grown g8,HR6.o.zf g8,HX6.o.zf g8,HC6.o.zf g8,ox⟩ g;have HB8:=hid (HM6.o.zf g8).bel;have hc8:Hc<w8.heap.size:=Nat.lt_of_lt_of_le HX6.o.lt g8.size;have h88:Bl w8 w8:=Below.refl _ _;have H88:=hid h88;clear hnx ENx HXl ox g8 HS6 HC6 HX6 HM6 HR6 d60'
 by_cases hx0:nw=0
 . subst hx0
   clear HX0 HXa HXh;go_wp2_with fail;(with_reducible refine (WK.o _ HB8.o).mono ?_);rintro e w9 ⟨rfl,g9⟩;go_wp2_with fail;go_ret;exact ⟨rfl,zi HB8.o g9⟩
 have hXne:X≠[]:=fun e=>hx0 (by rw [<- HNx.o,e];rfl)
 obtain ⟨q,rfl,hq⟩:=HX0.o hXne;have hxd:((nw:Int) == 0)=false:=by rw [beq_eq_false_iff_ne];omega
 have hq0:¬ ((q:Int)<0):=by omega
 have hqd0:decide ((q:Int)<0)=false:=decide_eq_false hq0;have hn1r:n1=m.zb.length:=by rw [<- (HL8.o w8 H88.o).cf.e1,HR.o.fit.hl]
 have hq1:¬ ((n1:Int)<=(q:Int)):=by omega
 have hqd1:decide ((n1:Int)<=(q:Int))=false:=decide_eq_false hq1;have hrg:((m.zb.length:Int) == 0)=false:=by rw [beq_eq_false_iff_ne];omega
 have hqR:(q:Int)<(m.zb.length:Int):=by omega
 have hqI0:(0:Int)<=(q:Int):=by omega
 obtain ⟨bo,oo,eo,hbo,hco⟩:=(HL8.o w8 H88.o).mb.mod.ownC hq;have hcpo:=(HL8.o w8 H88.o).mb.mod.zb.cap (by omega);obtain ⟨ow,how⟩:=ex2 (m.zb[q].own);rw [how] at hco;have HOw:Hid (ownA m q=ow):=hid (by rw [yq hq,how]);obtain ⟨x0,x1,x2,x3,x4,x5,_⟩:=(HL8.o w8 H88.o).mb.box;rw [eo] at x3;have c0:=(HL8.o w8 H88.o).cb.c0;have hnx0:0<nw:=by omega
 clear hx0 HX0 how h88 hn1r;have EX:=hid (fun wx (g:Bl w8 wx)=>zas (HL8.o wx g).st hm1 hm2 (HL8.o wx g).cf HR.o.fit HF.o (q:Int));unfold RowP at EX;have HEn:=hid (fun (h:exitsM m la ll (q:Int)=[])=>zeb HR.o.fit HF.o hq h);have RC:=hid (fun wx (g:Bl w8 wx)=>zdK (HL8.o wx g).cf (by omega) (by omega));unfold RefAt at RC;have IC:=hid (fun wx (g:Bl w8 wx) (a3:Option Addr) (c3:Nat) (a4:Option Addr) (c4:Nat) (hc:CfgAt la ll a3 n1 c3 a4 n2 c4 wx)=>is_at (HL8.o wx g).sb.mb.mod hc HR.o.fit (by omega) ow);unfold stV at IC
 have HSc:Hid (∀ W',Bl w8 W'->(W'.cell? ⟨Hr,0,none⟩=some (.string m.nm)/\W'.cell? ⟨Hr,1,none⟩=some (.slice pr.a1 m.vars.length pr.c1)/\W'.cell? ⟨Hr,2,none⟩=some (.slice pr.a2 m.za.length pr.c2)/\W'.cell? ⟨Hr,3,none⟩=some (.slice pr.a3 m.zb.length pr.c3)/\W'.cell? ⟨Hr,4,none⟩=some (.slice pr.a4 m.zc.length pr.c4)/\W'.cell? ⟨Hr,5,none⟩=some (.slice pr.a5 m.ze.length pr.c5))/\(W'.cell? ⟨Hr,6,none⟩=some (.string m.nm)/\W'.cell? ⟨Hr,7,none⟩=some (.slice pr.a1 m.vars.length pr.c1)/\W'.cell? ⟨Hr,8,none⟩=some (.slice pr.a2 m.za.length pr.c2)/\W'.cell? ⟨Hr,9,none⟩=some (.slice pr.a3 m.zb.length pr.c3)/\W'.cell? ⟨Hr,10,none⟩=some (.slice pr.a4 m.zc.length pr.c4)/\W'.cell? ⟨Hr,11,none⟩=some (.slice pr.a5 m.ze.length pr.c5))/\W'.cell? ⟨Hc,0,none⟩=some (.slice a1 n1 c1)/\W'.cell? ⟨Hc,1,none⟩=some (.slice a2 n2 c2)):=hid fun W' g=>by
   have hs:=(HL8.o W' g).sb;obtain ⟨j0,j1,j2,j3,j4,j5,_⟩:=hs.mb.box;have hy:=(HL8.o W' g).cb;exact ⟨⟨j0,j1,j2,j3,j4,j5⟩,hs.y,hy.c0,hy.c1⟩
 have hB0:=H88.o;have hwl:(exitsM m la ll (q:Int)).length<=1000:=by have:=kB (la:=la) (ll:=ll) H0.o (q:Int);omega
 generalize exitsM m la ll (q:Int)=Z at *;go_upto_region 11 with fail
 go_cut [98] (fun v98 wx=>Bl w8 wx/\(v98=.bool true\/(v98=.bool false/\EnX m la ll X q)))
 case first =>
  by_cases hZ:Z=[]
  rotate_left
  . have hZl:((Z.length:Int) != 0)=true:=by
      have:Z.length≠0:=fun e=>hZ (List.length_eq_zero_iff.1 e);simp only [bne_iff_ne,ne_eq];omega
    clear HXa HXh HEn RC IC hZ;refine wp_region_any (by kernel_rfl) ?_;change wpAny _ _ _ _ _ _ _ (World.drew _);refine hld HSc.o (hB0.drew) (fun hHeld=>?_);refine tk 0 rfl ?_;refine tk 1 rfl ?_;refine tk 2 rfl ?_;refine rd1 3 (fun K hK=>?_);(go_simp;(with_reducible refine (EX.o _ hB0.drew).mono ?_);rintro e w30 ⟨v30,rfl,o30,g30⟩;have hB30:Bl w8 w30:=zi hB0.drew g30;obtain ⟨x30,y30,rfl⟩:=zj o30;go_wp2_with fail);refine nx hK ?_ (fun hH1=>?_);(first | exact HSc.o _ hB0.drew | exact HSc.o _ (by assumption));clear hK K hHeld;refine tk 4 rfl ?_;refine tk 5 rfl ?_;refine tk 6 rfl ?_;refine tkP 7 rfl ?_;refine tkP 8 rfl ?_;refine tkP 9 rfl ?_;refine tkP 10 rfl ?_;refine tkP 11 rfl ?_;refine tkP 12 rfl ?_;refine tkP 13 rfl ?_;refine tkP 14 rfl ?_;refine tkP 15 rfl ?_;refine tkP 16 rfl ?_;refine tk 17 rfl ?_;refine dn ?_;rotate_left
    all_goals
      go_wp2_with fail
      go_meet
      exact ⟨hB30,.inl rfl⟩
  subst hZ;have HAt:=hid (HEn.o rfl);clear HEn
  by_cases hOn:0<=ow
  . have hod:decide ((0:Int)<=ow)=true:=decide_eq_true hOn
    obtain ⟨ia,hia⟩:=ex2 (isA m la ow);rw [hia] at IC;have HIa:=hid hia;clear hia hOn;have HE:=hid (fun h:ia=true=>HXa.o q hq rfl hXne HAt.o (.inr (by rw [HOw.o,HIa.o,h])));clear HXa HAt HIa;refine wp_region_any (by kernel_rfl) ?_;change wpAny _ _ _ _ _ _ _ (World.drew _);refine hld HSc.o (hB0.drew) (fun hHeld=>?_);refine tk 0 rfl ?_;refine tk 1 rfl ?_;refine tk 2 rfl ?_;refine rd1 3 (fun K hK=>?_);(go_simp;(with_reducible refine (EX.o _ hB0.drew).mono ?_);rintro e w30 ⟨v30,rfl,o30,g30⟩;have hB30:Bl w8 w30:=zi hB0.drew g30;obtain ⟨x30,y30,rfl⟩:=zj o30;go_wp2_with fail);refine nx hK ?_ (fun hH1=>?_);(first | exact HSc.o _ hB0.drew | exact HSc.o _ (by assumption));clear hK K hHeld;refine tk 4 rfl ?_;refine tk 5 rfl ?_;refine tk 6 rfl ?_;refine tk 7 rfl ?_;refine tk 8 rfl ?_;refine tk 9 rfl ?_;refine tk 10 rfl ?_;refine tk 11 rfl ?_;refine tk 13 rfl ?_;refine rd1 12 (fun K hK=>?_);(go_simp;(with_reducible refine (RC.o _ hB30).mono ?_);rintro e w31 ⟨x3,s3,x4,s4,rfl,hRc,g31⟩;have hB31:Bl w8 w31:=zi hB30 g31;go_wp2_with fail);refine nx hK ?_ (fun hH2=>?_);(first | exact HSc.o _ hB0.drew | exact HSc.o _ (by assumption));clear hK K hH1;refine rd1 14 (fun K hK=>?_);(go_simp;(with_reducible refine (IC.o _ hB31 _ _ _ _ hRc).mono ?_);rintro e w32 ⟨rfl,g32⟩;have hB32:Bl w8 w32:=zi hB31 g32;go_wp2_with fail);refine nx hK ?_ (fun hH3=>?_);(first | exact HSc.o _ hB0.drew | exact HSc.o _ (by assumption));clear hK K hH2;refine tk 15 rfl ?_;refine tk 16 rfl ?_;refine tk 17 rfl ?_;refine dn ?_;rotate_left
    all_goals
      go_wp2_with fail
      go_meet
      refine ⟨hB32,?_⟩
      cases ia
      . exact .inl rfl
      . exact .inr ⟨rfl,HE.o rfl⟩
  . have hod:decide ((0:Int)<=ow)=false:=decide_eq_false hOn
    have HE:=hid (HXa.o q hq rfl hXne HAt.o (.inl (by rw [HOw.o];omega)));clear HXa HAt RC IC;refine wp_region_any (by kernel_rfl) ?_;change wpAny _ _ _ _ _ _ _ (World.drew _);refine hld HSc.o (hB0.drew) (fun hHeld=>?_);refine tk 0 rfl ?_;refine tk 1 rfl ?_;refine tk 2 rfl ?_;refine rd1 3 (fun K hK=>?_);(go_simp;(with_reducible refine (EX.o _ hB0.drew).mono ?_);rintro e w30 ⟨v30,rfl,o30,g30⟩;have hB30:Bl w8 w30:=zi hB0.drew g30;obtain ⟨x30,y30,rfl⟩:=zj o30;go_wp2_with fail);refine nx hK ?_ (fun hH1=>?_);(first | exact HSc.o _ hB0.drew | exact HSc.o _ (by assumption));clear hK K hHeld;refine tk 4 rfl ?_;refine tk 5 rfl ?_;refine tk 6 rfl ?_;refine tk 7 rfl ?_;refine tk 8 rfl ?_;refine tk 9 rfl ?_;refine tkP 10 rfl ?_;refine tkP 11 rfl ?_;refine tkP 12 rfl ?_;refine tkP 13 rfl ?_;refine tkP 14 rfl ?_;refine tkP 15 rfl ?_;refine tk 16 rfl ?_;refine tk 17 rfl ?_;refine dn ?_;rotate_left
    all_goals
      go_wp2_with fail
      go_meet
      exact ⟨hB30,.inr ⟨rfl,HE.o⟩⟩
 case rest =>
  obtain ⟨hbc,hv⟩:=hcut;have HBc:=hid hbc;clear hbc hB0 hwl EX RC IC HSc HEn HXa x0 x1 x2 x3 x4 x5 c0 hco hbo eo hcpo HOw
  rcases hv with rfl | ⟨rfl,hE⟩
  . have HBz:=hid (zi HB8.o HBc.o)
    go_wp2_with fail;(with_reducible refine (WK.o _ HBz.o).mono ?_);rintro e w40 ⟨rfl,g40⟩;go_wp2_with fail;go_ret;exact ⟨rfl,zi HBz.o g40⟩
  have HE:=hid hE;have HLc:=hid (fun wx (g:Bl wc wx)=>HL8.o wx (zi HBc.o g));have HB9:=hid (zi HB8.o HBc.o);have hcc:Hc<wc.heap.size:=Nat.lt_of_lt_of_le hc8 HBc.o.size;clear hE HL8 HB8 HBc hc8 H88;have d0:=(HLc.o wc (Below.refl _ _)).cb.c0;have d1:=(HLc.o wc (Below.refl _ _)).cb.c1
  have HD0:Hid (Dw m wc.heap.size n1 n2 (enX m la X 0) wc (wc.alloc (.cells #[.slice a1 n1 c1,.slice a2 n2 c2] 74))):=hid
    ⟨zg _ _,Nat.le_refl _,a1,c1,a2,c2,ll,Bx.made wc _ _ _ _ _ _ _,(HLc.o wc (Below.refl _ _)).cf.zf (zg _ _),HF.o⟩
  obtain ⟨Hd,hHd⟩:=ex2 wc.heap.size;have hd8:wc.heap.size<=Hd:=by omega
  rw [hHd] at HD0;go_upto_region 14 with fail;clear hHd d0 d1;generalize wc.alloc (.cells #[.slice a1 n1 c1,.slice a2 n2 c2] 74)=W9 at *;go_wp2_with fail
  go_loopw [17] (fun i wr=>∃ k:Nat,k<=nw/\i=.int .i64 k/\Dw m Hd n1 n2 (enX m la X k) wc wr) (fun i _=>nw - (intOf i).toNat)
  case atStart=>exact ⟨0,by omega,rfl,HD0.o⟩
  case round =>
   obtain ⟨wo,rfl⟩:=ex1 wr;obtain ⟨k,hk,rfl,hw⟩:=hrel;have HLs:=hid (HLc.o wo hw.bel);have HBo:=hid hw.bel;obtain ⟨y1,z1,y2,z2,l',hbx,hcf,hfl⟩:=hw.db;have HBx:=hid hbx;have HCf:=hid hcf;have HFl:=hid hfl;have hHdo:=hbx.lt;clear hw hbx hcf hfl HD0
   by_cases hkn:k<nw
   . have hkl:k<X.length:=by rw [HNx.o];exact hkn
     have hkI:(k:Int)<(nw:Int):=by omega
     have hk0:(0:Int)<=(k:Int):=by omega
     obtain ⟨gx,cx,ex⟩:=zF HLs.o.ox (by omega);simp only [Value.slice.injEq,true_and] at ex;obtain ⟨rfl,rfl⟩:=ex;have hcapx:=zJ HLs.o.ox;have hgx:=(HLs.o.ox.lt gx rfl).2;have cxk:=(HLs.o.ox.cellAt k (by omega)).trans (show (nums X)[k]? = some (.int .i64 X[k]) by simp [nums,hkl]);obtain ⟨v,ev,hst,hen,hfi,hnx2⟩:=HE.o.ok k hkl;have LVk:=hid (fun wx (g:Bl wo wx)=>enter_ok (HLs.o.st.grown g) hm1 hm2 (HCf.o.zf g) hfi HFl.o (v:Int) hst hen);rw [<- hnx2] at LVk;unfold StepAt at LVk;have HFn:=HFl;obtain ⟨x,hx⟩:∃ x:Int,(v:Int)=x:=⟨_,rfl⟩;rw [ev,hx] at cxk;rw [hx] at LVk;have d0:=HBx.o.c0;have d1:=HBx.o.c1;have HSS:Hid (∀ W',Bl wo W'->W'.cell? ⟨Hd,0,none⟩=some (.slice y1 n1 z1)/\W'.cell? ⟨Hd,1,none⟩=some (.slice y2 n2 z2)/\W'.cell? ⟨gx,k,none⟩=some (.int .i64 x)):=hid fun W' g=>⟨(g.cell (p:=⟨Hd,0,none⟩) hHdo).trans d0,(g.cell (p:=⟨Hd,1,none⟩) hHdo).trans d1,(g.cell (p:=⟨gx,k,none⟩) hgx).trans cxk⟩;have hB0:Bl wo wo:=Below.refl _ _;clear ev hst hen hfi hnx2 hx d0 d1 cxk;go_upto_region 17 with fail;refine wp_region_any (by kernel_rfl) ?_;change wpAny _ _ _ _ _ _ _ (World.drew _);refine zz (n:=12) (o:=⟨some 19,.assign (.tmp 116),61, "law.go:138", #[⟨9,.data⟩,⟨11,.chain⟩,⟨0,.phase⟩,⟨1,.phase⟩,⟨2,.phase⟩,⟨3,.phase⟩,⟨4,.phase⟩,⟨5,.phase⟩,⟨6,.phase⟩,⟨7,.phase⟩,⟨8,.phase⟩,⟨9,.phase⟩,⟨10,.phase⟩,⟨11,.phase⟩],none⟩) (ops':=#[⟨some 108,.move (.tmp 9),77, "law.go:138", #[],none⟩,⟨some 109,.load 74 (.tmp 16),74, "law.go:138", #[],none⟩,⟨some 110,.move (.tmp 14),31, "law.go:138", #[],none⟩,⟨some 111,.move (.tmp 17),3, "law.go:138", #[],none⟩,⟨some 112,.indexAddr 31 (.tmp 110) (.tmp 111),0, "law.go:138", #[⟨2,.data⟩,⟨3,.data⟩],none⟩,⟨some 113,.load 3 (.tmp 112),3, "law.go:138", #[⟨4,.data⟩],none⟩,⟨some 114,.call { callee:=.value (.func 147),args:=#[.tmp 108,.tmp 109,.tmp 113],argTypes:=#[77,74,3] },160, "law.go:138", #[⟨0,.data⟩,⟨1,.data⟩,⟨5,.data⟩],none⟩,⟨some 107,.move (.tmp 114),160, "law.go:138", #[⟨6,.data⟩],none⟩,⟨some 115,.extract (.tmp 107) 0,74, "law.go:138", #[⟨7,.data⟩],none⟩,⟨some 116,.extract (.tmp 107) 1,61, "law.go:138", #[⟨7,.data⟩,{ on:=11,ground:=.gcOnly Go.Departure.lateStores }],none⟩,⟨some 18,.alloc 74,0, "law.go:138", #[],none⟩,⟨none,.store 74 (.tmp 18) (.tmp 115),0, "law.go:138", #[⟨10,.data⟩,⟨8,.data⟩,⟨6,.chain⟩,⟨0,.phase⟩,⟨1,.phase⟩,⟨2,.phase⟩,⟨3,.phase⟩,⟨4,.phase⟩,⟨5,.phase⟩,⟨6,.phase⟩,⟨7,.phase⟩,⟨8,.phase⟩,{ on:=9,ground:=.textOnly Go.Departure.lateStores },⟨10,.phase⟩],none⟩]) (by decide) (by kernel_rfl) (by rfl) (by rfl) ?_;refine zL (S:=(fun W'=>W'.cell? ⟨Hd,0,none⟩=some (.slice y1 n1 z1)/\W'.cell? ⟨Hd,1,none⟩=some (.slice y2 n2 z2)/\W'.cell? ⟨gx,k,none⟩=some (.int .i64 x))) ?_ (fun hHeld=>?_);(exact HSS.o _ (by first | exact hB0.drew | exact (hB0.alloc (Nat.le_refl _) _).drew | exact hB9 | exact hB9.alloc hB9.size _ | exact hB9.two (Nat.le_refl _) _ _ | exact (hB9.alloc hB9.size _).two hB9.size _ _));refine tk 0 rfl ?_;refine tk 1 rfl ?_;refine tk 2 rfl ?_;refine tk 3 rfl ?_;refine tk 4 rfl ?_;refine tk 5 rfl ?_;refine rdy [6,10] ?_;refine rdC rfl (fun K hK=>?_) ?_;(go_simp;(with_reducible refine (LVk.o _ (by first | exact hB0.drew | exact (hB0.alloc (Nat.le_refl _) _).drew)).mono ?_);rintro e w9 ⟨u1,t1,u2,t2,rfl,g9,hec⟩;have hB9:Bl wo w9:=(by first | exact zi hB0.drew g9 | exact zi (hB0.alloc (Nat.le_refl _) _).drew g9);(first | (have zA:=ju g9 (by simp);obtain ⟨za0,za1,za2,za3⟩:=qf zA) | skip);go_wp2_with fail);refine nx hK ?_ (fun hH1=>?_);(exact HSS.o _ (by first | exact hB0.drew | exact (hB0.alloc (Nat.le_refl _) _).drew | exact hB9 | exact hB9.alloc hB9.size _ | exact hB9.two (Nat.le_refl _) _ _ | exact (hB9.alloc hB9.size _).two hB9.size _ _));clear hK K hHeld;refine tk 7 rfl ?_;refine tk 8 rfl ?_;refine tk 9 rfl ?_;refine rd1 10 (fun K hK=>?_);(go_simp);refine nx hK ?_ (fun hH2=>?_);(exact HSS.o _ (by first | exact hB0.drew | exact (hB0.alloc (Nat.le_refl _) _).drew | exact hB9 | exact hB9.alloc hB9.size _ | exact hB9.two (Nat.le_refl _) _ _ | exact (hB9.alloc hB9.size _).two hB9.size _ _));clear hK K hH1;refine rd1 11 (fun K hK=>?_);(go_simp);refine nx hK ?_ (fun hH3=>?_);(exact HSS.o _ (by first | exact hB0.drew | exact (hB0.alloc (Nat.le_refl _) _).drew | exact hB9 | exact hB9.alloc hB9.size _ | exact hB9.two (Nat.le_refl _) _ _ | exact (hB9.alloc hB9.size _).two hB9.size _ _));clear hK K hH2;refine dn ?_;rotate_left;refine rdC rfl (fun K hK=>?_) ?_;(go_simp);refine nx hK ?_ (fun hH4=>?_);(exact HSS.o _ (by first | exact hB0.drew | exact (hB0.alloc (Nat.le_refl _) _).drew | exact hB9 | exact hB9.alloc hB9.size _ | exact hB9.two (Nat.le_refl _) _ _ | exact (hB9.alloc hB9.size _).two hB9.size _ _));clear hK K hHeld;refine rd1 6 (fun K hK=>?_);(go_simp;(with_reducible refine (LVk.o _ (by first | exact hB0.drew | exact (hB0.alloc (Nat.le_refl _) _).drew)).mono ?_);rintro e w9 ⟨u1,t1,u2,t2,rfl,g9,hec⟩;have hB9:Bl wo w9:=(by first | exact zi hB0.drew g9 | exact zi (hB0.alloc (Nat.le_refl _) _).drew g9);(first | (have zA:=ju g9 (by simp);obtain ⟨za0,za1,za2,za3⟩:=qf zA) | skip);go_wp2_with fail);refine nx hK ?_ (fun hH5=>?_);(exact HSS.o _ (by first | exact hB0.drew | exact (hB0.alloc (Nat.le_refl _) _).drew | exact hB9 | exact hB9.alloc hB9.size _ | exact hB9.two (Nat.le_refl _) _ _ | exact (hB9.alloc hB9.size _).two hB9.size _ _));clear hK K hH4;refine tk 7 rfl ?_;refine tk 8 rfl ?_;refine tk 9 rfl ?_;refine rd1 11 (fun K hK=>?_);(go_simp);refine nx hK ?_ (fun hH6=>?_);(exact HSS.o _ (by first | exact hB0.drew | exact (hB0.alloc (Nat.le_refl _) _).drew | exact hB9 | exact hB9.alloc hB9.size _ | exact hB9.two (Nat.le_refl _) _ _ | exact (hB9.alloc hB9.size _).two hB9.size _ _));clear hK K hH5;refine dn ?_;rotate_left;exact AllReadyH.nil
     all_goals
       refine zI fun K hK=>?_;go_simp;refine hK _ _ ?_;clear hK K
       first
         | (have HN0:=nc_a (zA:=zA) hB9 (by have:=g9.size;simp at this;omega) hec
            generalize ((w9.setCell ⟨wo.heap.size,0,none⟩ (.slice u1 n1 t1)).setCell ⟨wo.heap.size,1,none⟩ (.slice u2 n2 t2))=W18 at HN0 |-;generalize wo.heap.size=B18 at HN0 |-;clear zA za0 za1 za2 za3)
         | (have HN0:=nc_b hB9 hec
            generalize w9.alloc (.cells #[.slice u1 n1 t1,.slice u2 n2 t2] 74)=W18 at HN0 |-;generalize w9.heap.size=B18 at HN0 |-)
       have hx18:=HN0.bx;have hbd:=HBx.o.zf HN0.bel;have p0:=hx18.c0;have p1:=hx18.c1;have r0:=hbd.c0;have r1:=hbd.c1;have r2:=hbd.f0;have r3:=hbd.f1
       have HNx2:Hid (Dw m Hd n1 n2 (enX m la X (k+1)) wc ((W18.setCell ⟨Hd,0,none⟩ (.slice u1 n1 t1)).setCell ⟨Hd,1,none⟩ (.slice u2 n2 t2))):=hid
         ⟨((zi HBo.o HN0.bel).setCell (p:=⟨Hd,0,none⟩) hd8 _).setCell (p:=⟨Hd,1,none⟩) hd8 _,hd8,u1,t1,u2,t2,_,hbd.set _ _ _ _ _ _,HN0.cf.put hbd _ _ _ _ _ _,HFn.o⟩
       clear HN0 hx18 hbd hec g9 hB9 hB0 HSS HBx HCf HFl LVk;go_wp2_with fail;go_roundw
       case rel=>exact ⟨k+1,by omega,by go_num,HNx2.o⟩
       case measure=>simp [intOf] <;> omega
   . obtain rfl:nw=k:=by omega
     have hfit:=HE.o.fit;rw [HNx.o] at hfit;have EXd:=hid (zas HLs.o.st hm1 hm2 HCf.o hfit HFl.o (q:Int));have hout:=HE.o.o l' HFl.o;rw [HNx.o] at hout;rw [hout] at EXd;unfold RowP at EXd;have hrl:X.reverse.length=nw:=by rw [List.length_reverse];exact HNx.o
     rw [hrl] at EXd;have HRl:=hid hrl;have HFe:=hid hfit;have d0:=HBx.o.c0;have d1:=HBx.o.c1;clear hkn hk hfit hout hrl;go_wp2_with fail;(with_reducible refine (EXd.o).mono ?_);rintro e w20 ⟨v20,rfl,o20,g20⟩;have HBy:=hid (HBx.o.zf g20);have HCy:=hid (HCf.o.zf g20);have HL20:=hid (fun wx (g:Bl w20 wx)=>HLc.o wx (zi HBo.o (zi g20 g)));have HO20:=hid (fun wx (g:Bl w20 wx)=>zu o20 g);have HB20:=hid (zi HBo.o g20);have HG20:=hid g20;have HW20:=hid (zi HB9.o (zi HBo.o g20));have hz20:wo.heap.size<=w20.heap.size:=g20.size;obtain ⟨go,co,rfl⟩:=zF o20 (by omega);have hcapo:=zJ o20;have hgo:=(o20.lt go rfl).2;have hnn:((nw:Int) != (nw:Int))=false:=by simp
     have HRv:Hid (∀ i (h:i<X.reverse.length) (h2:nw - 1 - i<X.length),X.reverse[i]=X[nw - 1 - i]):=hid fun i h h2=>by
       rw [List.getElem_reverse];congr 1;rw [HNx.o]
     clear d0 d1 EXd o20 g20 HBx HCf HLs;go_wp2_with fail
     go_loopw [21] (fun i wr=>∃ k:Nat,k<=nw/\i=.int .i64 k/\Bl w20 wr) (fun i _=>nw - (intOf i).toNat)
     case atStart=>exact ⟨0,by omega,rfl,Below.refl _ _⟩
     case round =>
      obtain ⟨wp,rfl⟩:∃ wo:World,wo=wr:=⟨_,rfl⟩;obtain ⟨k,hk,rfl,hb⟩:=hrel;have HBp:=hid hb;have HOp:=hid (HO20.o wp hb);have HLp:=hid (HL20.o wp hb);clear hb
      by_cases hkn:k<nw
      . have hkl:k<X.length:=by rw [HNx.o];exact hkn
        obtain ⟨j,hj⟩:=ex2 (nw - 1 - k);have hjr:j<X.reverse.length:=by rw [HRl.o];omega
        have hkI:(k:Int)<(nw:Int):=by omega
        have hk0:(0:Int)<=(k:Int):=by omega
        obtain ⟨gx,cx,ex⟩:=zF HLp.o.ox (by omega);simp only [Value.slice.injEq,true_and] at ex;obtain ⟨rfl,rfl⟩:=ex;have hcapx:=zJ HLp.o.ox;have cxk:=(HLp.o.ox.cellAt k (by omega)).trans (show (nums X)[k]? = some (.int .i64 X[k]) by simp [nums,hkl])
        have cxj:=(HOp.o.cellAt j (by omega)).trans (show (nums X.reverse)[j]? = some (.int .i64 X.reverse[j]) by
          unfold nums;rw [List.getElem?_map,List.getElem?_eq_getElem hjr];rfl)
        have e:=HRv.o j hjr (by rw [HNx.o];omega);have e2:X.reverse[j]=X[k]:=by rw [e];congr 1;omega
        rw [e2] at cxj;obtain ⟨x,hx⟩:=ex2 (X[k]);rw [hx] at cxk cxj;have w1:IntKind.i64.wrap ((nw:Int) - 1)=(nw:Int) - 1:=IntWalk.i64_in _ (by omega);have w2:IntKind.i64.wrap ((nw:Int) - 1 - (k:Int))=(j:Int):=by rw [IntWalk.i64_in _ (by omega)];omega
        have hjI:(j:Int)<(nw:Int):=by omega
        have hj0:(0:Int)<=(j:Int):=by omega
        clear e e2 hx hjr hj;go_upto_region 27 with fail
        go_quiet (fail)
        go_wp2_with fail;go_roundw
        case rel=>exact ⟨k+1,by omega,by go_num,below_drewN HBp.o _⟩
        case measure=>simp [intOf] <;> omega
      . obtain rfl:nw=k:=by omega
        have HOk:=hid (fun (i:Nat) (hi:i<X.reverse.length)=>(show leaveOk m (leftM (enX m la X nw) (X.reverse.take i)) X.reverse[i]=true/\isA m (enX m la X nw) X.reverse[i]=true by
          have e:=HE.o.o l' HFl.o;rw [HNx.o] at e;have:=zcT (ll:=l') (r:=(q:Int)) HFe.o (i:=i) (by rw [e];exact hi);simpa only [e] using this))
        have HBk:=HE.o.back;rw [HNx.o] at HBk;have HBack:=hid HBk
        have HHome:Hid (0<=homeL m X):=hid (by
          cases hX:X with
          | nil=>rw [hX] at HNx;have:=HNx.o;simp at this;omega
          | cons a t=>exact home_in H0.o (r:=(q:Int)) (by omega) (fun x hx=>HXh.o x (by rw [hX];exact hx)))
        have HD3:Hid (Dw m Hd n1 n2 (leftM (enX m la X nw) (X.reverse.take 0)) wc wp/\wp.ownsRow wo.heap.size 3 1 (.slice (some ⟨go,0,none⟩) nw co) nw (nums X.reverse)):=hid
          ⟨⟨zi (zi HBo.o (by exact HG20.o)) HBp.o,hd8,y1,z1,y2,z2,l',HBy.o.zf HBp.o,by rw [List.take_zero,j7];exact HCy.o.zf HBp.o,HFl.o⟩,HOp.o⟩
        have HWc:=hid (fun wx (g:Bl wc wx)=>zi HB9.o g);clear HBk HE HB20 HO20 HL20 HBy HCy HBp HOp HLp HW20 hk hkn HXh;generalize enX m la X nw=C at *;generalize X.reverse=Y at *;go_wp2_with fail;obtain ⟨N3,hN3⟩:=ex2 wo.heap.size;have hHN:Hd<N3:=by omega
        rw [hN3] at HD3;have hxl3:nw<=1000:=hxl;clear hN3
        go_loopw [22] (fun i wr=>∃ k:Nat,k<=nw/\i=.int .i64 k/\Dw m Hd n1 n2 (leftM C (Y.take k)) wc wr/\wr.ownsRow N3 3 1 (.slice (some ⟨go,0,none⟩) nw co) nw (nums Y)) (fun i _=>nw - (intOf i).toNat)
        case atStart=>exact ⟨0,by omega,rfl,HD3.o⟩
        case round =>
         clear HFl HBo HG20;obtain ⟨wo,rfl⟩:=ex1 wr;obtain ⟨k,hk,rfl,hw,ho⟩:=hrel;have HLs:=hid (HLc.o wo hw.bel);have HBo:=hid hw.bel;have HOo:=hid ho;obtain ⟨y1,z1,y2,z2,l',hbx,hcf,hfl⟩:=hw.db;have HBx:=hid hbx;have HCf:=hid hcf;have HFl:=hid hfl;have hHdo:=hbx.lt;have hgx:=(ho.lt go rfl).2;clear hw ho hbx hcf hfl HD3
         by_cases hkn:k<nw
         . have hkl:k<Y.length:=by rw [HRl.o];exact hkn
           have hkI:(k:Int)<(nw:Int):=by omega
           have hk0:(0:Int)<=(k:Int):=by omega
           have cxk:=(HOo.o.cellAt k (by omega)).trans (show (nums Y)[k]? = some (.int .i64 Y[k]) by simp [nums,hkl]);obtain ⟨hlo,hla⟩:=HOk.o k hkl;have hst:=zaN hla;have HTk:=hid (zby HFe.o hkl hla);obtain ⟨v,hv,ev,qv,hqv,er1,er2,_⟩:=zD H0.o hst;have LVk:=hid (fun wx (g:Bl wo wx)=>zcS (HLs.o.st.grown g) hm1 hm2 (HCf.o.zf g) (jn HFe.o (Y.take k)) HFl.o Y[k] hst hlo);rw [HTk.o] at LVk;unfold StepAt at LVk
           have HFn:Hid (Fit m (l'.set (rgA m Y[k]).toNat Y[k])):=hid (by
             rw [ev] at hst |-;exact j8 HFl.o hst)
           obtain ⟨x,hx⟩:=ex2 (Y[k]);rw [hx] at cxk LVk HFn;have d0:=HBx.o.c0;have d1:=HBx.o.c1;obtain ⟨gx,hgo2⟩:=ex2 go;subst hgo2;have HSS:Hid (∀ W',Bl wo W'->W'.cell? ⟨Hd,0,none⟩=some (.slice y1 n1 z1)/\W'.cell? ⟨Hd,1,none⟩=some (.slice y2 n2 z2)/\W'.cell? ⟨go,k,none⟩=some (.int .i64 x)):=hid fun W' g=>⟨(g.cell (p:=⟨Hd,0,none⟩) hHdo).trans d0,(g.cell (p:=⟨Hd,1,none⟩) hHdo).trans d1,(g.cell (p:=⟨go,k,none⟩) hgx).trans cxk⟩;have hB0:Bl wo wo:=Below.refl _ _;clear hlo hla hst HTk ev er1 er2 hx d0 d1 cxk;go_upto_region 32 with fail;refine wp_region_any (by kernel_rfl) ?_;change wpAny _ _ _ _ _ _ _ (World.drew _);refine zz (n:=12) (o:=⟨some 24,.assign (.tmp 163),61, "law.go:154", #[⟨9,.data⟩,⟨11,.chain⟩,⟨0,.phase⟩,⟨1,.phase⟩,⟨2,.phase⟩,⟨3,.phase⟩,⟨4,.phase⟩,⟨5,.phase⟩,⟨6,.phase⟩,⟨7,.phase⟩,⟨8,.phase⟩,⟨9,.phase⟩,⟨10,.phase⟩,⟨11,.phase⟩],none⟩) (ops':=#[⟨some 155,.move (.tmp 9),77, "law.go:154", #[],none⟩,⟨some 156,.load 74 (.tmp 16),74, "law.go:154", #[],none⟩,⟨some 157,.move (.tmp 20),31, "law.go:154", #[],none⟩,⟨some 158,.move (.tmp 22),3, "law.go:154", #[],none⟩,⟨some 159,.indexAddr 31 (.tmp 157) (.tmp 158),0, "law.go:154", #[⟨2,.data⟩,⟨3,.data⟩],none⟩,⟨some 160,.load 3 (.tmp 159),3, "law.go:154", #[⟨4,.data⟩],none⟩,⟨some 161,.call { callee:=.value (.func 131),args:=#[.tmp 155,.tmp 156,.tmp 160],argTypes:=#[77,74,3] },160, "law.go:154", #[⟨0,.data⟩,⟨1,.data⟩,⟨5,.data⟩],none⟩,⟨some 154,.move (.tmp 161),160, "law.go:154", #[⟨6,.data⟩],none⟩,⟨some 162,.extract (.tmp 154) 0,74, "law.go:154", #[⟨7,.data⟩],none⟩,⟨some 163,.extract (.tmp 154) 1,61, "law.go:154", #[⟨7,.data⟩,{ on:=11,ground:=.gcOnly Go.Departure.lateStores }],none⟩,⟨some 23,.alloc 74,0, "law.go:154", #[],none⟩,⟨none,.store 74 (.tmp 23) (.tmp 162),0, "law.go:154", #[⟨10,.data⟩,⟨8,.data⟩,⟨6,.chain⟩,⟨0,.phase⟩,⟨1,.phase⟩,⟨2,.phase⟩,⟨3,.phase⟩,⟨4,.phase⟩,⟨5,.phase⟩,⟨6,.phase⟩,⟨7,.phase⟩,⟨8,.phase⟩,{ on:=9,ground:=.textOnly Go.Departure.lateStores },⟨10,.phase⟩],none⟩]) (by decide) (by kernel_rfl) (by rfl) (by rfl) ?_;refine zL (S:=(fun W'=>W'.cell? ⟨Hd,0,none⟩=some (.slice y1 n1 z1)/\W'.cell? ⟨Hd,1,none⟩=some (.slice y2 n2 z2)/\W'.cell? ⟨go,k,none⟩=some (.int .i64 x))) ?_ (fun hHeld=>?_);(exact HSS.o _ (by first | exact hB0.drew | exact (hB0.alloc (Nat.le_refl _) _).drew | exact hB9 | exact hB9.alloc hB9.size _ | exact hB9.two (Nat.le_refl _) _ _ | exact (hB9.alloc hB9.size _).two hB9.size _ _));refine tk 0 rfl ?_;refine tk 1 rfl ?_;refine tk 2 rfl ?_;refine tk 3 rfl ?_;refine tk 4 rfl ?_;refine tk 5 rfl ?_;refine rdy [6,10] ?_;refine rdC rfl (fun K hK=>?_) ?_;(go_simp;(with_reducible refine (LVk.o _ (by first | exact hB0.drew | exact (hB0.alloc (Nat.le_refl _) _).drew)).mono ?_);rintro e w9 ⟨u1,t1,u2,t2,rfl,g9,hec⟩;have hB9:Bl wo w9:=(by first | exact zi hB0.drew g9 | exact zi (hB0.alloc (Nat.le_refl _) _).drew g9);(first | (have zA:=ju g9 (by simp);obtain ⟨za0,za1,za2,za3⟩:=qf zA) | skip);go_wp2_with fail);refine nx hK ?_ (fun hH1=>?_);(exact HSS.o _ (by first | exact hB0.drew | exact (hB0.alloc (Nat.le_refl _) _).drew | exact hB9 | exact hB9.alloc hB9.size _ | exact hB9.two (Nat.le_refl _) _ _ | exact (hB9.alloc hB9.size _).two hB9.size _ _));clear hK K hHeld;refine tk 7 rfl ?_;refine tk 8 rfl ?_;refine tk 9 rfl ?_;refine rd1 10 (fun K hK=>?_);(go_simp);refine nx hK ?_ (fun hH2=>?_);(exact HSS.o _ (by first | exact hB0.drew | exact (hB0.alloc (Nat.le_refl _) _).drew | exact hB9 | exact hB9.alloc hB9.size _ | exact hB9.two (Nat.le_refl _) _ _ | exact (hB9.alloc hB9.size _).two hB9.size _ _));clear hK K hH1;refine rd1 11 (fun K hK=>?_);(go_simp);refine nx hK ?_ (fun hH3=>?_);(exact HSS.o _ (by first | exact hB0.drew | exact (hB0.alloc (Nat.le_refl _) _).drew | exact hB9 | exact hB9.alloc hB9.size _ | exact hB9.two (Nat.le_refl _) _ _ | exact (hB9.alloc hB9.size _).two hB9.size _ _));clear hK K hH2;refine dn ?_;rotate_left;refine rdC rfl (fun K hK=>?_) ?_;(go_simp);refine nx hK ?_ (fun hH4=>?_);(exact HSS.o _ (by first | exact hB0.drew | exact (hB0.alloc (Nat.le_refl _) _).drew | exact hB9 | exact hB9.alloc hB9.size _ | exact hB9.two (Nat.le_refl _) _ _ | exact (hB9.alloc hB9.size _).two hB9.size _ _));clear hK K hHeld;refine rd1 6 (fun K hK=>?_);(go_simp;(with_reducible refine (LVk.o _ (by first | exact hB0.drew | exact (hB0.alloc (Nat.le_refl _) _).drew)).mono ?_);rintro e w9 ⟨u1,t1,u2,t2,rfl,g9,hec⟩;have hB9:Bl wo w9:=(by first | exact zi hB0.drew g9 | exact zi (hB0.alloc (Nat.le_refl _) _).drew g9);(first | (have zA:=ju g9 (by simp);obtain ⟨za0,za1,za2,za3⟩:=qf zA) | skip);go_wp2_with fail);refine nx hK ?_ (fun hH5=>?_);(exact HSS.o _ (by first | exact hB0.drew | exact (hB0.alloc (Nat.le_refl _) _).drew | exact hB9 | exact hB9.alloc hB9.size _ | exact hB9.two (Nat.le_refl _) _ _ | exact (hB9.alloc hB9.size _).two hB9.size _ _));clear hK K hH4;refine tk 7 rfl ?_;refine tk 8 rfl ?_;refine tk 9 rfl ?_;refine rd1 11 (fun K hK=>?_);(go_simp);refine nx hK ?_ (fun hH6=>?_);(exact HSS.o _ (by first | exact hB0.drew | exact (hB0.alloc (Nat.le_refl _) _).drew | exact hB9 | exact hB9.alloc hB9.size _ | exact hB9.two (Nat.le_refl _) _ _ | exact (hB9.alloc hB9.size _).two hB9.size _ _));clear hK K hH5;refine dn ?_;rotate_left;exact AllReadyH.nil
           all_goals
             refine zI fun K hK=>?_;go_simp;refine hK _ _ ?_;clear hK K
             first
               | (have HN0:=nc_a (zA:=zA) hB9 (by have:=g9.size;simp at this;omega) hec
                  generalize ((w9.setCell ⟨wo.heap.size,0,none⟩ (.slice u1 n1 t1)).setCell ⟨wo.heap.size,1,none⟩ (.slice u2 n2 t2))=W18 at HN0 |-;generalize wo.heap.size=B18 at HN0 |-;clear zA za0 za1 za2 za3)
               | (have HN0:=nc_b hB9 hec
                  generalize w9.alloc (.cells #[.slice u1 n1 t1,.slice u2 n2 t2] 74)=W18 at HN0 |-;generalize w9.heap.size=B18 at HN0 |-)
             have hx18:=HN0.bx;have hbd:=HBx.o.zf HN0.bel;have p0:=hx18.c0;have p1:=hx18.c1;have r0:=hbd.c0;have r1:=hbd.c1;have r2:=hbd.f0;have r3:=hbd.f1
             have HNx2:Hid (Dw m Hd n1 n2 (leftM C (Y.take (k+1))) wc ((W18.setCell ⟨Hd,0,none⟩ (.slice u1 n1 t1)).setCell ⟨Hd,1,none⟩ (.slice u2 n2 t2))/\((W18.setCell ⟨Hd,0,none⟩ (.slice u1 n1 t1)).setCell ⟨Hd,1,none⟩ (.slice u2 n2 t2)).ownsRow N3 3 1 (.slice (some ⟨go,0,none⟩) nw co) nw (nums Y)):=hid
               ⟨⟨((zi HBo.o HN0.bel).setCell (p:=⟨Hd,0,none⟩) hd8 _).setCell (p:=⟨Hd,1,none⟩) hd8 _,hd8,u1,t1,u2,t2,_,hbd.set _ _ _ _ _ _,HN0.cf.put hbd _ _ _ _ _ _,HFn.o⟩,ownsRow_setCell_below (a:=⟨Hd,1,none⟩) (ownsRow_setCell_below (a:=⟨Hd,0,none⟩) (zu HOo.o HN0.bel) (by simp only;omega) _) (by simp only;omega) _⟩
             clear HN0 hx18 hbd hec g9 hB9 hB0 HSS HBx HCf HFl LVk;go_wp2_with fail;go_roundw
             case rel=>exact ⟨k+1,by omega,by go_num,HNx2.o⟩
             case measure=>simp [intOf] <;> omega
         . obtain rfl:nw=k:=by omega
           have hcf:CfgAt la l' y1 n1 z1 y2 n2 z2 wo:=by
             have:=HCf.o;rw [<- HRl.o,List.take_length,HBack.o] at this;exact this
           have hc2:=HLs.o.cf;have SMi:=hid (yv la _ _ wo hcf.r1 hc2.r1 (by rw [HR.o.fit.hl];omega));have d0:=HBx.o.c0;have k0:=HLs.o.cb.c0;have HM0:=hid (fun wx (g:Bl wo wx)=>ql (HLs.o.st.grown g) H0.o X (.slice xa nw xc) (by have:=RowIn.own (l:=X) (by rw [HNx.o];exact zu HLs.o.ox g);exact this) (by rw [HNx.o];omega));have hHm:=HHome.o;have hHd2:decide (0<=homeL m X)=true:=decide_eq_true hHm;generalize homeL m X=hv at *;have HWo:=hid (HWc.o wo HBo.o);clear hcf hc2 HCf HFl;go_wp2_with fail;(with_reducible refine (SMi.o).mono ?_);rintro e w50 ⟨rfl,g50⟩;have HM1:=hid (HM0.o w50 g50);have HW1:=hid (zi HWo.o g50);go_wp2_with fail;(with_reducible refine (HM1.o).mono ?_);rintro e w51 ⟨rfl,g51⟩;have HW2:=hid (zi HW1.o g51);go_wp2_with fail;(with_reducible refine (WK.o _ HW2.o).mono ?_);rintro e w52 ⟨rfl,g52⟩;go_wp2_with fail;go_ret;exact ⟨rfl,zi HW2.o g52⟩
end Go.Proofs
