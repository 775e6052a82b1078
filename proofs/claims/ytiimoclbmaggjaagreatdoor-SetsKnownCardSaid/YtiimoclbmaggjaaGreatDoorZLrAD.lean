/- Walks: the document's sets: Of, Vertex, row, Fits. -/
import Derived.Test.YtiimoclbmaggjaaGreatDoorZLgAE
import Derived.Test.YtiimoclbmaggjaaGreatDoorZRyCE
namespace Go.Proofs
open Go.RowKit Go.Lx Go.Md Go.Shelf Go.BigFrame Go.Rgi
open Lib(hid)
open Go.Proofs.Tryz
set_option maxRecDepth 100000
set_option maxHeartbeats 0
set_option linter.unusedVariables false
def stV (m:MdlD) (p:Ph):Value:=.agg #[.string m.nm,.slice p.a1 m.vars.length p.c1,.slice p.a2 m.za.length p.c2,.slice p.a3 m.zb.length p.c3,.slice p.a4 m.zc.length p.c4,.slice p.a5 m.ze.length p.c5,.string m.nm,.slice p.a1 m.vars.length p.c1,.slice p.a2 m.za.length p.c2,.slice p.a3 m.zb.length p.c3,.slice p.a4 m.zc.length p.c4,.slice p.a5 m.ze.length p.c5]
structure Sb (m:MdlD) (p:Ph) (H:Nat) (w wx:World):Prop where
 mb:Mb m p H w wx
 y:wx.cell? ⟨H,6,none⟩=some (.string m.nm)/\wx.cell? ⟨H,7,none⟩=some (.slice p.a1 m.vars.length p.c1)/\wx.cell? ⟨H,8,none⟩=some (.slice p.a2 m.za.length p.c2)/\wx.cell? ⟨H,9,none⟩=some (.slice p.a3 m.zb.length p.c3)/\wx.cell? ⟨H,10,none⟩=some (.slice p.a4 m.zc.length p.c4)/\wx.cell? ⟨H,11,none⟩=some (.slice p.a5 m.ze.length p.c5)
theorem Sb.zf {m:MdlD} {p:Ph} {H:Nat} {w wx wy:World} (h:Sb m p H w wx) (g:Bl wx wy):Sb m p H w wy:=by
 obtain ⟨y0,y1,y2,y3,y4,y5⟩:=h.y;have hl:=h.mb.box.sl;exact ⟨h.mb.zf g,(g.cell (p:=⟨H,6,none⟩) hl).trans y0,(g.cell (p:=⟨H,7,none⟩) hl).trans y1,(g.cell (p:=⟨H,8,none⟩) hl).trans y2,(g.cell (p:=⟨H,9,none⟩) hl).trans y3,(g.cell (p:=⟨H,10,none⟩) hl).trans y4,(g.cell (p:=⟨H,11,none⟩) hl).trans y5⟩
theorem Sb.made {Q:Nat->BP} {m:MdlD} {p:Ph} {w:World} (h:Mod Q w m p):Sb m p w.heap.size w (w.alloc (.cells #[.string m.nm,.slice p.a1 m.vars.length p.c1,.slice p.a2 m.za.length p.c2,.slice p.a3 m.zb.length p.c3,.slice p.a4 m.zc.length p.c4,.slice p.a5 m.ze.length p.c5,.string m.nm,.slice p.a1 m.vars.length p.c1,.slice p.a2 m.za.length p.c2,.slice p.a3 m.zb.length p.c3,.slice p.a4 m.zc.length p.c4,.slice p.a5 m.ze.length p.c5] 168)):=by
 refine ⟨⟨zg w _,(h.weaken fun _ _ h _=>h).zf (zg w _),?_⟩,?_⟩
 . constructor <;> simp
 . simp
theorem sof_any (m:MdlD) (p:Ph) (w:World):Calls prog 125 #[mdV m p] w fun e w'=>e=.returned (stV m p)/\Bl w w':=by
 unfold mdV stV;go_enter func125,ntmps125;go_wp2_with fail;refine bodyPost_ret (v:=.agg #[.string m.nm,.slice p.a1 m.vars.length p.c1,.slice p.a2 m.za.length p.c2,.slice p.a3 m.zb.length p.c3,.slice p.a4 m.zc.length p.c4,.slice p.a5 m.ze.length p.c5,.string m.nm,.slice p.a1 m.vars.length p.c1,.slice p.a2 m.za.length p.c2,.slice p.a3 m.zb.length p.c3,.slice p.a4 m.zc.length p.c4,.slice p.a5 m.ze.length p.c5]) (by simp [results,results125,go_sem]) rfl ⟨rfl,zq w _ _⟩
theorem yt {Q:Nat->BP} (m:MdlD) (p:Ph) (v:Int) (w:World) (h:Mod Q w m p) (hvl:m.zc.length<=100000) :
   Calls prog 217 #[stV m p,.int .i64 v] w fun e w'=>e=.returned (.bool (stands m v))/\Bl w w':=by
 have HB:=hid (Sb.made h);unfold stV
 cases hv:hasV m v with
 | false =>
  have hp:stands m v=false:=by unfold stands;rw [hv];rfl
  rw [hp];unfold hasV at hv;clear h hp
  by_cases h1:0<=v
  . have h2:¬ (v<m.zc.length):=by simp [h1] at hv;omega
    clear hv;go_enter func217,ntmps217;go_wp2_with fail;go_ret;exact ⟨rfl,zg w _⟩
  . clear hv
    go_enter func217,ntmps217;go_wp2_with fail;go_ret;exact ⟨rfl,zg w _⟩
 | true =>
  obtain ⟨k,rfl,hk⟩:=zZ hv;rw [yg hk];obtain ⟨b2,o2,ea,hb2,dv,hdv,r0,r1,_⟩:=h.zc.get hk;have hcap:=h.zc.cap (by omega);obtain ⟨x,hx⟩:=ex2 (m.zc[k].kd);rw [hx] at r1 |-;rw [ea];have h1:(0:Int)<=(k:Int):=by omega
  have h2:(k:Int)<(m.zc.length:Int):=by omega
  clear h hv ea hdv r0 hx HB
  cases d1:(x == 1) with
  | true =>
   have e1:((x:Int) == 1)=true:=by simp at d1 |-;omega
   go_enter func217,ntmps217;go_wp2_with fail;go_ret;exact ⟨rfl,zg w _⟩
  | false =>
   have e1:((x:Int) == 1)=false:=by simp at d1 |-;omega
   cases d2:(x == 2) with
   | true =>
    have e2:((x:Int) == 2)=true:=by simp at d2 |-;omega
    go_enter func217,ntmps217;go_wp2_with fail;go_ret;exact ⟨rfl,zg w _⟩
   | false =>
    have e2:((x:Int) == 2)=false:=by simp at d2 |-;omega
    go_enter func217,ntmps217;go_wp2_with fail;go_ret;exact ⟨rfl,zg w _⟩
theorem zdg (m:MdlD) (v:Int):ofKd m [1,2] v=stands m v:=by
 unfold ofKd
 cases hb:hasV m v with
 | false=>unfold stands;rw [hb];rfl
 | true =>
  obtain ⟨k,rfl,hk⟩:=zN hb;rw [yg hk,qP hk];unfold hasN;simp
theorem may_home {m:MdlD} (h0:riM m=(0,0,0)) {v r:Int} (hv:v≠-1):mayM m v r=(stands m v && homeM m v == r):=by
 rw [zbG h0 hv,zdg]
theorem zdh {Q:Nat->BP} (m:MdlD) (p:Ph) (l:List Int) (lv:Value) (w:World) (h:Mod Q w m p) (h0:riM m=(0,0,0)) (hr:RowIn w lv l) (hl:l.length<=1000000) (hvl:m.zc.length<=100000) (hrl:m.zb.length<=100000) :
   Calls prog 216 #[stV m p,lv] w fun e w'=>e=.returned (.bool (fit1 m l))/\Bl w w':=by
 have HB:=hid (Sb.made h);have HV:=hid (fun wx (g:Sb m p w.heap.size w wx) (v:Int)=>yt m p v wx g.mb.mod hvl);have HGr:=hid (fun wx (g:Sb m p w.heap.size w wx) (v:Int)=>yG m p v wx g.mb.mod h0 (by omega));have HR:=hid (fun (wx:World) (g:Bl w wx)=>(hr.zf g).len);have MH:=hid (fun (v r:Int) (hv:v≠-1)=>may_home h0 (r:=r) hv);obtain ⟨a,c,rfl,hc,_⟩:=hr.len;unfold ixV at HGr;unfold stV mdV at *;clear h h0 hr
 by_cases hn:l.length=m.zb.length
 . have hd:((l.length:Int) != (m.zb.length:Int))=false:=by simp only [bne_eq_false_iff_eq];omega
   have HFit:=hid (fun hh=>zaB (m:=m) (l:=l) hn hh);obtain ⟨n,hn2⟩:=ex2 l.length;have HN:=hid hn2;rw [hn2] at hl hc hd |-;clear hn hn2;go_enter func216,ntmps216;obtain ⟨x0,x1,x2,x3,x4,x5,_⟩:=HB.o.mb.box;go_wp2_with fail;clear x0 x1 x2 x3 x4 x5
   go_loopw [5] (fun i wr=>∃ k:Nat,k<=n/\i=.int .i64 k/\Sb m p w.heap.size w wr/\∀ j,j<k->mayM m (l.getD j (-1)) j=true) (fun i _=>n - (intOf i).toNat)
   case atStart=>exact ⟨0,by omega,rfl,HB.o,fun j hj=>by omega⟩
   case round =>
    obtain ⟨wo,rfl⟩:=ex1 wr;obtain ⟨k,hk,rfl,hb,hno⟩:=hrel;have HBo:=hid hb;have HNo:=hid hno;clear hb hno HB
    by_cases hlt:k<n
    . have hkl:k<l.length:=by rw [HN.o];exact hlt
      obtain ⟨a',c',e,_,q⟩:=HR.o wo HBo.o.mb.bel;obtain ⟨b1,o1,ea,hbl1,hc1⟩:=q k hkl;simp only [Value.slice.injEq] at e;obtain ⟨rfl,e',rfl⟩:=e;clear e';subst ea;have hI:(k:Int)<(n:Int):=by omega
      have hI0:(0:Int)<=(k:Int):=by omega
      have hg:l.getD k (-1)=l[k]'hkl:=by rw [List.getD_eq_getElem?_getD,List.getElem?_eq_getElem hkl];rfl
      have HS:Hid (∀ b,mayM m (l.getD k (-1)) k=b->(b=true->∀ j,j<k+1->mayM m (l.getD j (-1)) j=true)/\(b=false->fit1 m l=false)):=fun b hb=>⟨fun ht j hj=>by
        by_cases e:j=k
        . subst e;rw [hb,ht]
        . exact HNo.o j (by omega),fun hf=>zaz hkl (by rw [hb,hf])⟩
      rw [hg] at HS;obtain ⟨y,hy⟩:=ex2 (l[k]'hkl);rw [hy] at hc1 HS;have HC0:=hid (fun wx (g:Bl wo wx)=>HV.o wx (HBo.o.zf g) y);have HG0:=hid (fun wx (g:Bl wo wx)=>HGr.o wx (HBo.o.zf g) y)
      have HX:Hid (∀ W',Bl wo W'->(W'.cell? ⟨w.heap.size,0,none⟩=some (.string m.nm)/\W'.cell? ⟨w.heap.size,1,none⟩=some (.slice p.a1 m.vars.length p.c1)/\W'.cell? ⟨w.heap.size,2,none⟩=some (.slice p.a2 m.za.length p.c2)/\W'.cell? ⟨w.heap.size,3,none⟩=some (.slice p.a3 m.zb.length p.c3)/\W'.cell? ⟨w.heap.size,4,none⟩=some (.slice p.a4 m.zc.length p.c4)/\W'.cell? ⟨w.heap.size,5,none⟩=some (.slice p.a5 m.ze.length p.c5))/\(W'.cell? ⟨w.heap.size,6,none⟩=some (.string m.nm)/\W'.cell? ⟨w.heap.size,7,none⟩=some (.slice p.a1 m.vars.length p.c1)/\W'.cell? ⟨w.heap.size,8,none⟩=some (.slice p.a2 m.za.length p.c2)/\W'.cell? ⟨w.heap.size,9,none⟩=some (.slice p.a3 m.zb.length p.c3)/\W'.cell? ⟨w.heap.size,10,none⟩=some (.slice p.a4 m.zc.length p.c4)/\W'.cell? ⟨w.heap.size,11,none⟩=some (.slice p.a5 m.ze.length p.c5))/\W'.cell? ⟨b1,o1+k,none⟩=some (.int .i64 y)):=hid fun W' g=>by
        have hh:=HBo.o.zf g;obtain ⟨x0,x1,x2,x3,x4,x5,_⟩:=hh.mb.box;exact ⟨⟨x0,x1,x2,x3,x4,x5⟩,hh.y,(g.cell (p:=⟨b1,o1+k,none⟩) hbl1).trans hc1⟩
      have hB0:Bl wo wo:=Below.refl _ _;clear q hg hy HV HGr HR HNo HFit
      by_cases hy1:y=-1
      . have hd1:(y != -1)=false:=by rw [hy1];rfl
        have hT:=hid ((HS.o true (by rw [hy1];exact zaC m _)).1 rfl);clear HS HC0 HG0 MH hy1;obtain ⟨x0,x1,x2,x3,x4,x5,_⟩:=HBo.o.mb.box;go_wp2_with fail
        go_quiet (fail)
        go_wp2_with fail;go_roundw
        case rel=>exact ⟨k+1,by omega,by go_num,HBo.o.zf (below_drewN hB0 _),hT.o⟩
        case measure=>simp [intOf] <;> omega
      . have hd1:(y != -1)=true:=by simp only [bne_iff_ne,ne_eq];exact hy1
        have hM2:=MH.o y k hy1;obtain ⟨st,hst⟩:=ex2 (stands m y);obtain ⟨hm,hhm⟩:=ex2 (homeM m y);rw [hst,hhm] at hM2;have HC:Hid (∀ wx,Bl wo wx->Calls prog 217 #[.agg #[.string m.nm,.slice p.a1 m.vars.length p.c1,.slice p.a2 m.za.length p.c2,.slice p.a3 m.zb.length p.c3,.slice p.a4 m.zc.length p.c4,.slice p.a5 m.ze.length p.c5,.string m.nm,.slice p.a1 m.vars.length p.c1,.slice p.a2 m.za.length p.c2,.slice p.a3 m.zb.length p.c3,.slice p.a4 m.zc.length p.c4,.slice p.a5 m.ze.length p.c5],.int .i64 y] wx fun e w'=>e=.returned (.bool st)/\Bl wx w'):=hid (by rw [<- hst];exact HC0.o);have HG:Hid (∀ wx,Bl wo wx->Calls prog 77 #[.agg #[.string m.nm,.slice p.a1 m.vars.length p.c1,.slice p.a2 m.za.length p.c2,.slice p.a3 m.zb.length p.c3,.slice p.a4 m.zc.length p.c4,.slice p.a5 m.ze.length p.c5],.int .i64 y] wx fun e w'=>e=.returned (.int .i64 hm)/\Bl wx w'):=hid (by rw [<- hhm];exact HG0.o);have HS1:=HX;clear hst hhm HC0 HG0 MH hy1 HX
        cases st with
        | false =>
         have hF:=hid ((HS.o false (by rw [hM2];rfl)).2 rfl);clear HS hM2 HG;go_wp2_with fail;refine wp_region_any (by kernel_rfl) ?_;change wpAny _ _ _ _ _ _ _ (World.drew _);refine hld HS1.o (hB0.drew) (fun hHeld=>?_);refine tk 0 rfl ?_;refine tk 1 rfl ?_;refine tk 2 rfl ?_;refine tk 3 rfl ?_;refine tk 4 rfl ?_;refine tk 5 rfl ?_;refine tk 6 rfl ?_;refine tk 7 rfl ?_;refine tk 8 rfl ?_;refine tk 9 rfl ?_;refine tk 10 rfl ?_;refine rd1 11 (fun K hK=>?_);(go_simp;(with_reducible refine (HC.o _ hB0.drew).mono ?_);rintro e w3 ⟨rfl,hb3⟩;have hB3:=hB0.drew.trans hb3;go_wp2_with fail);refine nx hK ?_ (fun hH1=>?_);(first | exact HS1.o _ (by assumption) | exact HS1.o _ hB0.drew);clear hK K hHeld;refine tk 12 rfl ?_;refine tk 13 rfl ?_;refine tkP 14 rfl ?_;refine tkP 15 rfl ?_;refine tkP 16 rfl ?_;refine tkP 17 rfl ?_;refine tkP 18 rfl ?_;refine tkP 19 rfl ?_;refine tkP 20 rfl ?_;refine tkP 21 rfl ?_;refine tkP 22 rfl ?_;refine tk 23 rfl ?_;refine tk 24 rfl ?_;refine dn ?_;rotate_left
         all_goals
           go_wp2_with fail;go_ret;exact ⟨by rw [hF.o];rfl,(HBo.o.zf hB3).mb.bel⟩
        | true =>
         rw [Bool.true_and] at hM2
         cases hq:(hm == (k:Int)) with
         | true =>
          have hq':(hm != (k:Int))=false:=by simp only [bne,hq];rfl
          have hT:=hid ((HS.o true (by rw [hM2,hq])).1 rfl);clear HS hM2 hq;go_wp2_with fail;refine wp_region_any (by kernel_rfl) ?_;change wpAny _ _ _ _ _ _ _ (World.drew _);refine hld HS1.o (hB0.drew) (fun hHeld=>?_);refine tk 0 rfl ?_;refine tk 1 rfl ?_;refine tk 2 rfl ?_;refine tk 3 rfl ?_;refine tk 4 rfl ?_;refine tk 5 rfl ?_;refine tk 6 rfl ?_;refine tk 7 rfl ?_;refine tk 8 rfl ?_;refine tk 9 rfl ?_;refine tk 10 rfl ?_;refine rd1 11 (fun K hK=>?_);(go_simp;(with_reducible refine (HC.o _ hB0.drew).mono ?_);rintro e w3 ⟨rfl,hb3⟩;have hB3:=hB0.drew.trans hb3;go_wp2_with fail);refine nx hK ?_ (fun hH1=>?_);(first | exact HS1.o _ (by assumption) | exact HS1.o _ hB0.drew);clear hK K hHeld;refine tk 12 rfl ?_;refine tk 13 rfl ?_;refine tk 14 rfl ?_;refine tk 15 rfl ?_;refine tk 16 rfl ?_;refine tk 17 rfl ?_;refine tk 18 rfl ?_;refine tk 19 rfl ?_;refine tk 21 rfl ?_;refine rd1 20 (fun K hK=>?_);(go_simp;(with_reducible refine (HG.o _ hB3).mono ?_);rintro e w4 ⟨rfl,hb4⟩;have hB4:=zi hB3 hb4;go_wp2_with fail);refine nx hK ?_ (fun hH2=>?_);(first | exact HS1.o _ (by assumption) | exact HS1.o _ hB0.drew);clear hK K hH1;refine tk 22 rfl ?_;refine tk 23 rfl ?_;refine tk 24 rfl ?_;refine dn ?_;rotate_left
          all_goals
            go_wp2_with fail;go_roundw
            case rel=>exact ⟨k+1,by omega,by go_num,HBo.o.zf hB4,hT.o⟩
            case measure=>simp [intOf] <;> omega
         | false =>
          have hq':(hm != (k:Int))=true:=by simp only [bne,hq];rfl
          have hF:=hid ((HS.o false (by rw [hM2,hq])).2 rfl);clear HS hM2 hq;go_wp2_with fail;refine wp_region_any (by kernel_rfl) ?_;change wpAny _ _ _ _ _ _ _ (World.drew _);refine hld HS1.o (hB0.drew) (fun hHeld=>?_);refine tk 0 rfl ?_;refine tk 1 rfl ?_;refine tk 2 rfl ?_;refine tk 3 rfl ?_;refine tk 4 rfl ?_;refine tk 5 rfl ?_;refine tk 6 rfl ?_;refine tk 7 rfl ?_;refine tk 8 rfl ?_;refine tk 9 rfl ?_;refine tk 10 rfl ?_;refine rd1 11 (fun K hK=>?_);(go_simp;(with_reducible refine (HC.o _ hB0.drew).mono ?_);rintro e w3 ⟨rfl,hb3⟩;have hB3:=hB0.drew.trans hb3;go_wp2_with fail);refine nx hK ?_ (fun hH1=>?_);(first | exact HS1.o _ (by assumption) | exact HS1.o _ hB0.drew);clear hK K hHeld;refine tk 12 rfl ?_;refine tk 13 rfl ?_;refine tk 14 rfl ?_;refine tk 15 rfl ?_;refine tk 16 rfl ?_;refine tk 17 rfl ?_;refine tk 18 rfl ?_;refine tk 19 rfl ?_;refine tk 21 rfl ?_;refine rd1 20 (fun K hK=>?_);(go_simp;(with_reducible refine (HG.o _ hB3).mono ?_);rintro e w4 ⟨rfl,hb4⟩;have hB4:=zi hB3 hb4;go_wp2_with fail);refine nx hK ?_ (fun hH2=>?_);(first | exact HS1.o _ (by assumption) | exact HS1.o _ hB0.drew);clear hK K hH1;refine tk 22 rfl ?_;refine tk 23 rfl ?_;refine tk 24 rfl ?_;refine dn ?_;rotate_left
          all_goals
            go_wp2_with fail;go_ret;exact ⟨by rw [hF.o];rfl,(HBo.o.zf hB4).mb.bel⟩
    . have hE:=hid (HFit.o fun j hj=>HNo.o j (by have:=HN.o;omega))
      go_wp2_with fail;go_ret;exact ⟨by rw [hE.o];rfl,HBo.o.mb.bel⟩
 . have hd:((l.length:Int) != (m.zb.length:Int))=true:=by simp only [bne_iff_ne,ne_eq];omega
   have HF:=hid (zaA hn);clear hn;go_enter func216,ntmps216;obtain ⟨x0,x1,x2,x3,x4,x5,_⟩:=HB.o.mb.box;go_wp2_with fail;go_ret;exact ⟨by rw [HF.o];rfl,HB.o.mb.bel⟩
theorem yH {Q:Nat->BP} (m:MdlD) (p:Ph) (la ll:List Int) (a1 a2:Option Addr) (c1 c2:Nat) (w:World) (h:Mod Q w m p) (h0:riM m=(0,0,0)) (h1:RowIn w (.slice a1 la.length c1) la) (h2:RowIn w (.slice a2 ll.length c2) ll) (b1:la.length<=1000000) (b2:ll.length<=1000000) (hvl:m.zc.length<=100000) (hrl:m.zb.length<=100000) :
   Calls prog 126 #[stV m p,.agg #[.slice a1 la.length c1,.slice a2 ll.length c2]] w fun e w'=>e=.returned (.bool (fit2 m la ll))/\Bl w w':=by
 have HB:Hid (Sb m p w.heap.size w ((w.alloc (.cells #[.string m.nm,.slice p.a1 m.vars.length p.c1,.slice p.a2 m.za.length p.c2,.slice p.a3 m.zb.length p.c3,.slice p.a4 m.zc.length p.c4,.slice p.a5 m.ze.length p.c5,.string m.nm,.slice p.a1 m.vars.length p.c1,.slice p.a2 m.za.length p.c2,.slice p.a3 m.zb.length p.c3,.slice p.a4 m.zc.length p.c4,.slice p.a5 m.ze.length p.c5] 168)).alloc (.cells #[.slice a1 la.length c1,.slice a2 ll.length c2] 150))):=hid ((Sb.made h).zf (zg _ _));have R1:=hid (fun wx (g:Sb m p w.heap.size w wx)=>zdh m p la (.slice a1 la.length c1) wx g.mb.mod h0 (h1.zf g.mb.bel) b1 hvl hrl);have R2:=hid (fun wx (g:Sb m p w.heap.size w wx)=>zdh m p ll (.slice a2 ll.length c2) wx g.mb.mod h0 (h2.zf g.mb.bel) b2 hvl hrl);have HE:Hid (fit2 m la ll=(fit1 m la && fit1 m ll)):=hid rfl;unfold stV at R1 R2 |-;generalize fit1 m la=f1 at *;generalize fit1 m ll=f2 at *;rw [HE.o];clear h h0 h1 h2 HE;have D:Hid (∀ wx,Below ((w.alloc (.cells #[.string m.nm,.slice p.a1 m.vars.length p.c1,.slice p.a2 m.za.length p.c2,.slice p.a3 m.zb.length p.c3,.slice p.a4 m.zc.length p.c4,.slice p.a5 m.ze.length p.c5,.string m.nm,.slice p.a1 m.vars.length p.c1,.slice p.a2 m.za.length p.c2,.slice p.a3 m.zb.length p.c3,.slice p.a4 m.zc.length p.c4,.slice p.a5 m.ze.length p.c5] 168)).alloc (.cells #[.slice a1 la.length c1,.slice a2 ll.length c2] 150)).heap.size ((w.alloc (.cells #[.string m.nm,.slice p.a1 m.vars.length p.c1,.slice p.a2 m.za.length p.c2,.slice p.a3 m.zb.length p.c3,.slice p.a4 m.zc.length p.c4,.slice p.a5 m.ze.length p.c5,.string m.nm,.slice p.a1 m.vars.length p.c1,.slice p.a2 m.za.length p.c2,.slice p.a3 m.zb.length p.c3,.slice p.a4 m.zc.length p.c4,.slice p.a5 m.ze.length p.c5] 168)).alloc (.cells #[.slice a1 la.length c1,.slice a2 ll.length c2] 150)) wx->wx.cell? ⟨w.heap.size+1,1,none⟩=some (.slice a2 ll.length c2)):=hid fun wx g=>(g.cell (p:=⟨w.heap.size+1,1,none⟩) (by simp)).trans (by simp)
 go_enter func126,ntmps126;obtain ⟨x0,x1,x2,x3,x4,x5,_⟩:=HB.o.mb.box;obtain ⟨y0,y1,y2,y3,y4,y5⟩:=HB.o.y
 cases f1 with
 | false =>
  go_wp2_with fail;(with_reducible refine (R1.o _ HB.o).mono ?_);rintro e w3 ⟨rfl,g3⟩;have HB3:=hid (HB.o.zf g3);go_wp2_with fail;go_ret;exact ⟨rfl,HB3.o.mb.bel⟩
 | true =>
  go_wp2_with fail;(with_reducible refine (R1.o _ HB.o).mono ?_);rintro e w3 ⟨rfl,g3⟩;have HB3:=hid (HB.o.zf g3);have d3:=D.o w3 g3;clear x0 x1 x2 x3 x4 x5 y0 y1 y2 y3 y4 y5 HB g3;obtain ⟨x0,x1,x2,x3,x4,x5,_⟩:=HB3.o.mb.box;obtain ⟨y0,y1,y2,y3,y4,y5⟩:=HB3.o.y;go_wp2_with fail;(with_reducible refine (R2.o _ HB3.o).mono ?_);rintro e w4 ⟨rfl,g4⟩;have HB4:=hid (HB3.o.zf g4);go_wp2_with fail;go_ret;exact ⟨by first | rfl | simp,HB4.o.mb.bel⟩
structure Sc (m:MdlD) (p:Ph) (la ll:List Int) (a1 a2:Option Addr) (c1 c2:Nat) (w wx:World):Prop where
 sb:Sb m p w.heap.size w wx
 d0:wx.cell? ⟨w.heap.size+1,0,none⟩=some (.slice a1 la.length c1)
 d1:wx.cell? ⟨w.heap.size+1,1,none⟩=some (.slice a2 ll.length c2)
 sz:w.heap.size+1<wx.heap.size
 r1:RowIn wx (.slice a1 la.length c1) la
theorem Sc.zf {m:MdlD} {p:Ph} {la ll:List Int} {a1 a2:Option Addr} {c1 c2:Nat} {w wx wy:World} (h:Sc m p la ll a1 a2 c1 c2 w wx) (g:Bl wx wy):Sc m p la ll a1 a2 c1 c2 w wy :=
 ⟨h.sb.zf g,(g.cell (p:=⟨w.heap.size+1,0,none⟩) h.sz).trans h.d0,(g.cell (p:=⟨w.heap.size+1,1,none⟩) h.sz).trans h.d1,Nat.lt_of_lt_of_le h.sz g.size,h.r1.zf g⟩
theorem Sc.made {Q:Nat->BP} {m:MdlD} {p:Ph} {la ll:List Int} {a1 a2:Option Addr} {c1 c2:Nat} {w:World} (h:Mod Q w m p) (h1:RowIn w (.slice a1 la.length c1) la) :
   Sc m p la ll a1 a2 c1 c2 w ((w.alloc (.cells #[.string m.nm,.slice p.a1 m.vars.length p.c1,.slice p.a2 m.za.length p.c2,.slice p.a3 m.zb.length p.c3,.slice p.a4 m.zc.length p.c4,.slice p.a5 m.ze.length p.c5,.string m.nm,.slice p.a1 m.vars.length p.c1,.slice p.a2 m.za.length p.c2,.slice p.a3 m.zb.length p.c3,.slice p.a4 m.zc.length p.c4,.slice p.a5 m.ze.length p.c5] 168)).alloc (.cells #[.slice a1 la.length c1,.slice a2 ll.length c2] 150)) :=
 ⟨(Sb.made h).zf (zg _ _),by simp,by simp,by simp,h1.zf (zq w _ _)⟩
theorem j9 {Q:Nat->BP} (m:MdlD) (p:Ph) (la ll:List Int) (a1 a2:Option Addr) (c1 c2:Nat) (v:Int) (w:World) (h:Mod Q w m p) (h0:riM m=(0,0,0)) (h1:RowIn w (.slice a1 la.length c1) la) (hl:la.length=m.zb.length) (hvl:m.zc.length<=100000) :
   Calls prog 127 #[stV m p,.agg #[.slice a1 la.length c1,.slice a2 ll.length c2],.int .i64 v] w fun e w'=>e=.returned (.bool (isA m la v))/\Bl w w':=by
 have HB:=hid (Sc.made (ll:=ll) (a2:=a2) (c2:=c2) h h1);have HC0:=hid (fun wx (g:Sc m p la ll a1 a2 c1 c2 w wx)=>yt m p v wx g.sb.mb.mod hvl);have HG0:=hid (fun wx (g:Sc m p la ll a1 a2 c1 c2 w wx)=>yG m p v wx g.sb.mb.mod h0 (by omega));have HI:Hid (isA m la v=(stands m v && atL la (rgA m v) == v)):=hid rfl;have HSt:=hid (fun (hs:stands m v=true)=>zD h0 hs);have HLl:=hid hl;obtain ⟨st,hst⟩:=ex2 (stands m v);unfold ixV at HG0;unfold stV mdV at *;rw [hst] at HI;have HC1:Hid (∀ wx,Sc m p la ll a1 a2 c1 c2 w wx->Calls prog 217 #[.agg #[.string m.nm,.slice p.a1 m.vars.length p.c1,.slice p.a2 m.za.length p.c2,.slice p.a3 m.zb.length p.c3,.slice p.a4 m.zc.length p.c4,.slice p.a5 m.ze.length p.c5,.string m.nm,.slice p.a1 m.vars.length p.c1,.slice p.a2 m.za.length p.c2,.slice p.a3 m.zb.length p.c3,.slice p.a4 m.zc.length p.c4,.slice p.a5 m.ze.length p.c5],.int .i64 v] wx fun e w'=>e=.returned (.bool st)/\Bl wx w'):=hid (by rw [<- hst];exact HC0.o);obtain ⟨a1',c1',e,hc,q⟩:=h1.len;simp only [Value.slice.injEq] at e;obtain ⟨e1,_,e2⟩:=e;rw [<- e2] at hc;rw [<- e1] at q;have hq:=q;clear h h0 HC0 e1 e2 q hl
 cases st with
 | false =>
  rw [Bool.false_and] at HI;rw [HI.o];clear HI HG0 HSt hq hst h1;go_enter func127,ntmps127;go_wp2_with fail;generalize ((w.alloc (.cells #[.string m.nm,.slice p.a1 m.vars.length p.c1,.slice p.a2 m.za.length p.c2,.slice p.a3 m.zb.length p.c3,.slice p.a4 m.zc.length p.c4,.slice p.a5 m.ze.length p.c5,.string m.nm,.slice p.a1 m.vars.length p.c1,.slice p.a2 m.za.length p.c2,.slice p.a3 m.zb.length p.c3,.slice p.a4 m.zc.length p.c4,.slice p.a5 m.ze.length p.c5] 168)).alloc (.cells #[.slice a1 la.length c1,.slice a2 ll.length c2] 150))=W1 at *;have HC:=hid (fun wx (g:Bl W1 wx)=>HC1.o wx (HB.o.zf g))
  have HS1:Hid (∀ W',Bl W1 W'->(W'.cell? ⟨w.heap.size,0,none⟩=some (.string m.nm)/\W'.cell? ⟨w.heap.size,1,none⟩=some (.slice p.a1 m.vars.length p.c1)/\W'.cell? ⟨w.heap.size,2,none⟩=some (.slice p.a2 m.za.length p.c2)/\W'.cell? ⟨w.heap.size,3,none⟩=some (.slice p.a3 m.zb.length p.c3)/\W'.cell? ⟨w.heap.size,4,none⟩=some (.slice p.a4 m.zc.length p.c4)/\W'.cell? ⟨w.heap.size,5,none⟩=some (.slice p.a5 m.ze.length p.c5))/\(W'.cell? ⟨w.heap.size,6,none⟩=some (.string m.nm)/\W'.cell? ⟨w.heap.size,7,none⟩=some (.slice p.a1 m.vars.length p.c1)/\W'.cell? ⟨w.heap.size,8,none⟩=some (.slice p.a2 m.za.length p.c2)/\W'.cell? ⟨w.heap.size,9,none⟩=some (.slice p.a3 m.zb.length p.c3)/\W'.cell? ⟨w.heap.size,10,none⟩=some (.slice p.a4 m.zc.length p.c4)/\W'.cell? ⟨w.heap.size,11,none⟩=some (.slice p.a5 m.ze.length p.c5))/\W'.cell? ⟨w.heap.size+1,0,none⟩=some (.slice a1 la.length c1)):=hid fun W' g=>by
    have hh:=HB.o.zf g;obtain ⟨x0,x1,x2,x3,x4,x5,_⟩:=hh.sb.mb.box;exact ⟨⟨x0,x1,x2,x3,x4,x5⟩,hh.sb.y,hh.d0⟩
  have hB0:Bl W1 W1:=Below.refl _ _;clear HC1;refine wp_region_any (by kernel_rfl) ?_;change wpAny _ _ _ _ _ _ _ (World.drew _);refine hld HS1.o (hB0.drew) (fun hHeld=>?_);refine tk 0 rfl ?_;refine tk 1 rfl ?_;refine rd1 2 (fun K hK=>?_);(go_simp;(with_reducible refine (HC.o _ (by first | assumption | exact hB0.drew)).mono ?_);rintro e w3 ⟨rfl,hb3⟩;have hB3:=zi (by first | assumption | exact hB0.drew) hb3;go_wp2_with fail);refine nx hK ?_ (fun hH1=>?_);(first | exact HS1.o _ (by assumption) | exact HS1.o _ hB0.drew);clear hK K hHeld;refine tk 3 rfl ?_;refine tkP 4 rfl ?_;refine tkP 5 rfl ?_;refine tkP 6 rfl ?_;refine tkP 7 rfl ?_;refine tkP 8 rfl ?_;refine tkP 9 rfl ?_;refine tkP 10 rfl ?_;refine tkP 11 rfl ?_;refine tkP 12 rfl ?_;refine tkP 13 rfl ?_;refine tk 14 rfl ?_;refine tk 15 rfl ?_;refine dn ?_;rotate_left
  all_goals
    go_wp2_with fail;go_ret;exact ⟨rfl,(HB.o.zf hB3).sb.mb.bel⟩
 | true =>
  obtain ⟨k,hk,rfl,r,hr,e1,e2,_⟩:=HSt.o hst;have hrl:r<la.length:=by rw [HLl.o];exact hr
  have HG1:Hid (∀ wx,Sc m p la ll a1 a2 c1 c2 w wx->Calls prog 77 #[.agg #[.string m.nm,.slice p.a1 m.vars.length p.c1,.slice p.a2 m.za.length p.c2,.slice p.a3 m.zb.length p.c3,.slice p.a4 m.zc.length p.c4,.slice p.a5 m.ze.length p.c5],.int .i64 (k:Int)] wx fun e w'=>e=.returned (.int .i64 (r:Int))/\Bl wx w'):=hid (by rw [<- e2];exact HG0.o);obtain ⟨b1,o1,ea,hb1,hc1⟩:=hq r hrl;rw [e1,Bool.true_and,zaD hrl] at HI;obtain ⟨y,hy⟩:=ex2 (la[r]'hrl);rw [hy] at hc1 HI;rw [HI.o];have hb1':b1<((w.alloc (.cells #[.string m.nm,.slice p.a1 m.vars.length p.c1,.slice p.a2 m.za.length p.c2,.slice p.a3 m.zb.length p.c3,.slice p.a4 m.zc.length p.c4,.slice p.a5 m.ze.length p.c5,.string m.nm,.slice p.a1 m.vars.length p.c1,.slice p.a2 m.za.length p.c2,.slice p.a3 m.zb.length p.c3,.slice p.a4 m.zc.length p.c4,.slice p.a5 m.ze.length p.c5] 168)).alloc (.cells #[.slice a1 la.length c1,.slice a2 ll.length c2] 150)).heap.size:=by simp;omega
  have hc1':((w.alloc (.cells #[.string m.nm,.slice p.a1 m.vars.length p.c1,.slice p.a2 m.za.length p.c2,.slice p.a3 m.zb.length p.c3,.slice p.a4 m.zc.length p.c4,.slice p.a5 m.ze.length p.c5,.string m.nm,.slice p.a1 m.vars.length p.c1,.slice p.a2 m.za.length p.c2,.slice p.a3 m.zb.length p.c3,.slice p.a4 m.zc.length p.c4,.slice p.a5 m.ze.length p.c5] 168)).alloc (.cells #[.slice a1 la.length c1,.slice a2 ll.length c2] 150)).cell? ⟨b1,o1+r,none⟩=some (.int .i64 y):=((zq w _ _).cell (p:=⟨b1,o1+r,none⟩) hb1).trans hc1;have hrI:(r:Int)<(la.length:Int):=by omega
  have hr0:(0:Int)<=(r:Int):=by omega
  clear HI HG0 HSt hst e1 e2 hy hc1 hq hb1;subst ea;go_enter func127,ntmps127;go_wp2_with fail;generalize ((w.alloc (.cells #[.string m.nm,.slice p.a1 m.vars.length p.c1,.slice p.a2 m.za.length p.c2,.slice p.a3 m.zb.length p.c3,.slice p.a4 m.zc.length p.c4,.slice p.a5 m.ze.length p.c5,.string m.nm,.slice p.a1 m.vars.length p.c1,.slice p.a2 m.za.length p.c2,.slice p.a3 m.zb.length p.c3,.slice p.a4 m.zc.length p.c4,.slice p.a5 m.ze.length p.c5] 168)).alloc (.cells #[.slice (some ⟨b1,o1,none⟩) la.length c1,.slice a2 ll.length c2] 150))=W1 at *;have HC:=hid (fun wx (g:Bl W1 wx)=>HC1.o wx (HB.o.zf g));have HG:=hid (fun wx (g:Bl W1 wx)=>HG1.o wx (HB.o.zf g))
  have HS1:Hid (∀ W',Bl W1 W'->(W'.cell? ⟨w.heap.size,0,none⟩=some (.string m.nm)/\W'.cell? ⟨w.heap.size,1,none⟩=some (.slice p.a1 m.vars.length p.c1)/\W'.cell? ⟨w.heap.size,2,none⟩=some (.slice p.a2 m.za.length p.c2)/\W'.cell? ⟨w.heap.size,3,none⟩=some (.slice p.a3 m.zb.length p.c3)/\W'.cell? ⟨w.heap.size,4,none⟩=some (.slice p.a4 m.zc.length p.c4)/\W'.cell? ⟨w.heap.size,5,none⟩=some (.slice p.a5 m.ze.length p.c5))/\(W'.cell? ⟨w.heap.size,6,none⟩=some (.string m.nm)/\W'.cell? ⟨w.heap.size,7,none⟩=some (.slice p.a1 m.vars.length p.c1)/\W'.cell? ⟨w.heap.size,8,none⟩=some (.slice p.a2 m.za.length p.c2)/\W'.cell? ⟨w.heap.size,9,none⟩=some (.slice p.a3 m.zb.length p.c3)/\W'.cell? ⟨w.heap.size,10,none⟩=some (.slice p.a4 m.zc.length p.c4)/\W'.cell? ⟨w.heap.size,11,none⟩=some (.slice p.a5 m.ze.length p.c5))/\W'.cell? ⟨w.heap.size+1,0,none⟩=some (.slice (some ⟨b1,o1,none⟩) la.length c1)/\W'.cell? ⟨b1,o1+r,none⟩=some (.int .i64 y)):=hid fun W' g=>by
    have hh:=HB.o.zf g;obtain ⟨x0,x1,x2,x3,x4,x5,_⟩:=hh.sb.mb.box;exact ⟨⟨x0,x1,x2,x3,x4,x5⟩,hh.sb.y,hh.d0,(g.cell (p:=⟨b1,o1+r,none⟩) hb1').trans hc1'⟩
  have hB0:Bl W1 W1:=Below.refl _ _;clear HC1 HG1 h1;refine wp_region_any (by kernel_rfl) ?_;change wpAny _ _ _ _ _ _ _ (World.drew _);refine hld HS1.o (hB0.drew) (fun hHeld=>?_);refine tk 0 rfl ?_;refine tk 1 rfl ?_;refine rd1 2 (fun K hK=>?_);(go_simp;(with_reducible refine (HC.o _ (by first | assumption | exact hB0.drew)).mono ?_);rintro e w3 ⟨rfl,hb3⟩;have hB3:=zi (by first | assumption | exact hB0.drew) hb3;go_wp2_with fail);refine nx hK ?_ (fun hH1=>?_);(first | exact HS1.o _ (by assumption) | exact HS1.o _ hB0.drew);clear hK K hHeld;refine tk 3 rfl ?_;refine tk 4 rfl ?_;refine tk 5 rfl ?_;refine tk 6 rfl ?_;refine tk 7 rfl ?_;refine tk 8 rfl ?_;refine tk 12 rfl ?_;refine rd1 9 (fun K hK=>?_);(go_simp;(with_reducible refine (HG.o _ (by assumption)).mono ?_);rintro e w4 ⟨rfl,hb4⟩;have hB4:=zi hB3 hb4;go_wp2_with fail);refine nx hK ?_ (fun hH2=>?_);(first | exact HS1.o _ (by assumption) | exact HS1.o _ hB0.drew);clear hK K hH1;refine tk 10 rfl ?_;refine tk 11 rfl ?_;refine tk 13 rfl ?_;refine tk 14 rfl ?_;refine tk 15 rfl ?_;refine dn ?_;rotate_left
  all_goals
    go_wp2_with fail;go_ret;exact ⟨rfl,(HB.o.zf hB4).sb.mb.bel⟩
theorem zbd {N T n c:Nat} {a:Option Addr} {w:World} {xs:List Value} (h:w.ownsRow N T 1 (.slice a n c) n xs):n<=c:=by
 rcases h.2 with ⟨e,h0⟩ | ⟨g',c',_,e,_,_,hc,_⟩
 . omega
 . simp only [Value.slice.injEq] at e;omega
theorem zd9 {l:List Int} {w w4:World} {v4:Value} (hown4:w4.ownsRow w.heap.size 3 1 v4 ([] ++ l).length (nums ([] ++ l))) (hgrow4:w.grownBy w4 (Value.slice none 0 0).ownBlock) {i:Nat} (hi:i<l.length) (v:Int) :
   ∃ g c4,v4=.slice (some ⟨g,0,none⟩) l.length c4/\l.length<=c4/\w4.cell? ⟨g,i,none⟩=some (.int .i64 l[i])/\w4.frozen? ⟨g,i,none⟩=false/\Bl w (w4.setCell ⟨g,i,none⟩ (.int .i64 v))/\(w4.setCell ⟨g,i,none⟩ (.int .i64 v)).ownsRow w.heap.size 3 1 (.slice (some ⟨g,0,none⟩) l.length c4) (l.set i v).length (nums (l.set i v)):=by
 rw [List.nil_append] at hown4;obtain ⟨g,c4,rfl⟩:=zF hown4 (by omega);refine ⟨g,c4,rfl,zbd hown4,(hown4.cellAt i (by omega)).trans (by simp [nums,hi]),hown4.frozenAt i,((Below.refl w.heap.size w).grown hgrow4 (Nat.le_refl _) (fun q hq=>by cases hq)).setCell (p:=⟨g,i,none⟩) (hown4.lt g rfl).1 _,?_⟩;have e:nums (l.set i v)=(nums l).set i (.int .i64 v):=by simp [nums,List.map_set]
 rw [List.length_set,e];exact (hown4.stored i (.int .i64 v)).1
theorem jy (l:List Int) (lv:Value) (i:Nat) (v:Int) (w:World) (h:RowIn w lv l) (hi:i<l.length) (hl:l.length<=900000) :
   Calls prog 210 #[lv,.int .i64 (i:Int),.int .i64 v] w (RowP (l.set i v) w):=by
 obtain ⟨iI,hiI,zI0,zI1,zI2⟩:=info_parts zS;have HR:=hid h;obtain ⟨a,c,rfl,hc,_⟩:=h.len;clear h;go_enter func210,ntmps210;go_wp2_with (at_builtin;refine zn _ rfl _ _ 31 rfl 3 w.heap.size iI (.int .i64 0) underlying31 hiI zI0 zI1 zI2 rfl (.slice none 0 0) [] rfl (World.ownsRow_nil _ _ _ _) _ l rfl HR.o (by simp;omega) (Nat.le_refl _) ?_;intro v4 w4 hown4 hgrow4 hnxt4;obtain ⟨g,c4,rfl,hcap,hcell,hfr,hB,hO⟩:=zd9 hown4 hgrow4 hi v;have hiI2:(i:Int)<(l.length:Int):=(by omega);have hi0:(0:Int)<=(i:Int):=(by omega);have HBB:=hid hB;have HOO:=hid hO;clear hB hO hown4 hgrow4 hnxt4);go_ret;exact ⟨_,rfl,HOO.o,HBB.o⟩
end Go.Proofs
