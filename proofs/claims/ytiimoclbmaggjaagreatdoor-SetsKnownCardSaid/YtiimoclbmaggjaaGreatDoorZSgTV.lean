/- Walks: a configuration that is reached: 'start' of law 20. -/
import Derived.Test.YtiimoclbmaggjaaGreatDoorZSgAN
import Derived.Test.YtiimoclbmaggjaaGreatDoorZLrAD
import Derived.Test.YtiimoclbmaggjaaGreatDoorZLiA
namespace Go.Proofs
open Go.RowKit Go.Lx Go.Md Go.Shelf Go.BigFrame Go.Rgi
open Lib(hid)
open Go.Proofs.Tryz
set_option maxRecDepth 100000
set_option maxHeartbeats 0
set_option linter.unusedVariables false
structure Bx (H:Nat) (a1:Option Addr) (n1 c1:Nat) (a2:Option Addr) (n2 c2:Nat) (w:World):Prop where
 c0:w.cell? ⟨H,0,none⟩=some (.slice a1 n1 c1)
 c1:w.cell? ⟨H,1,none⟩=some (.slice a2 n2 c2)
 f0:w.frozen? ⟨H,0,none⟩=false
 f1:w.frozen? ⟨H,1,none⟩=false
 lt:H<w.heap.size
section
variable {H:Nat} {a1 a2:Option Addr} {n1 c1 n2 c2:Nat} {w w':World}
theorem Bx.zf (h:Bx H a1 n1 c1 a2 n2 c2 w) (g:Bl w w'):Bx H a1 n1 c1 a2 n2 c2 w' :=
 ⟨(g.cell (p:=⟨H,0,none⟩) h.lt).trans h.c0,(g.cell (p:=⟨H,1,none⟩) h.lt).trans h.c1,(g.frozen (p:=⟨H,0,none⟩) h.lt).trans h.f0,(g.frozen (p:=⟨H,1,none⟩) h.lt).trans h.f1,Nat.lt_of_lt_of_le h.lt g.size⟩
theorem Bx.set (h:Bx H a1 n1 c1 a2 n2 c2 w) (b1:Option Addr) (m1 d1:Nat) (b2:Option Addr) (m2 d2:Nat):Bx H b1 m1 d1 b2 m2 d2 ((w.setCell ⟨H,0,none⟩ (.slice b1 m1 d1)).setCell ⟨H,1,none⟩ (.slice b2 m2 d2)) :=
 ⟨(World.cell?_setCell_other _ _ _ _ (by simp)).trans (World.cell?_setCell_same _ _ _ h.c0),World.cell?_setCell_same _ _ _ ((World.cell?_setCell_other _ _ _ _ (by simp)).trans h.c1),by rw [World.frozen?_setCell,World.frozen?_setCell];exact h.f0,by rw [World.frozen?_setCell,World.frozen?_setCell];exact h.f1,by rw [World.size_setCell,World.size_setCell];exact h.lt⟩
theorem Bx.other (h:Bx H a1 n1 c1 a2 n2 c2 w) {K:Nat} (hK:H≠K) (u v:Value):Bx H a1 n1 c1 a2 n2 c2 ((w.setCell ⟨K,0,none⟩ u).setCell ⟨K,1,none⟩ v) :=
 ⟨((World.cell?_setCell_other _ _ _ _ (by simp <;> omega)).trans (World.cell?_setCell_other _ _ _ _ (by simp <;> omega))).trans h.c0,((World.cell?_setCell_other _ _ _ _ (by simp <;> omega)).trans (World.cell?_setCell_other _ _ _ _ (by simp <;> omega))).trans h.c1,by rw [World.frozen?_setCell,World.frozen?_setCell];exact h.f0,by rw [World.frozen?_setCell,World.frozen?_setCell];exact h.f1,by rw [World.size_setCell,World.size_setCell];exact h.lt⟩
theorem Bx.made (w:World) (a1:Option Addr) (n1 c1:Nat) (a2:Option Addr) (n2 c2:Nat) (T:TypeId):Bx w.heap.size a1 n1 c1 a2 n2 c2 (w.alloc (.cells #[.slice a1 n1 c1,.slice a2 n2 c2] T)):=by
 have e:=World.alloc_heap_new w (.cells #[.slice a1 n1 c1,.slice a2 n2 c2] T);exact ⟨zh e 0,zh e 1,zX e 0,zX e 1,by simp⟩
theorem RowIn.set {v:Value} {l:List Int} {k:Nat} (h:RowIn w v l) (hn:∀ x,w.cell? ⟨H,k,none⟩≠some (.int .i64 x)) (u:Value):RowIn (w.setCell ⟨H,k,none⟩ u) v l:=by
 rcases h with h | ⟨b,off,c,e,h0,h1,h3⟩
 . exact .inl h
 . refine .inr ⟨b,off,c,e,h0,by rw [World.size_setCell];exact h1,fun j u' hj=>?_⟩
   have h4:=h3 j u' hj;rw [yU] at h4 |-
   have:(⟨b,off+j,none⟩:Addr)≠⟨H,k,none⟩:=fun e2=>by
     rw [e2] at h4;simp only [nums,List.getElem?_map] at hj
     cases hl:l[j]? with
     | none=>rw [hl] at hj;cases hj
     | some x =>
      rw [hl] at hj;simp only [Option.map_some,Option.some.injEq] at hj;exact hn x (by rw [h4,hj])
   exact (World.cell?_setCell_other _ _ _ _ this.symm).trans h4
theorem RowIn.put {v:Value} {l:List Int} (h:RowIn w v l) (hb:Bx H a1 n1 c1 a2 n2 c2 w) (b1:Option Addr) (m1 d1:Nat) (b2:Option Addr) (m2 d2:Nat):RowIn ((w.setCell ⟨H,0,none⟩ (.slice b1 m1 d1)).setCell ⟨H,1,none⟩ (.slice b2 m2 d2)) v l :=
 (h.set (fun x e=>by rw [hb.c0] at e;cases e) _).set (fun x e=>by rw [World.cell?_setCell_other _ _ _ _ (by simp),hb.c1] at e;cases e) _
def CfgOk (m:MdlD) (a1:Option Addr) (n1 c1:Nat) (a2:Option Addr) (n2 c2:Nat) (w:World):Prop:=∃ la ll,la.length=n1/\ll.length=n2/\RowIn w (.slice a1 n1 c1) la/\RowIn w (.slice a2 n2 c2) ll/\Rch m la/\Fit m ll
theorem CfgOk.zf {m:MdlD} (h:CfgOk m a1 n1 c1 a2 n2 c2 w) (g:Bl w w'):CfgOk m a1 n1 c1 a2 n2 c2 w':=by
 obtain ⟨la,ll,e1,e2,r1,r2,h1,h2⟩:=h;exact ⟨la,ll,e1,e2,r1.zf g,r2.zf g,h1,h2⟩
theorem CfgOk.put {m:MdlD} {x1 x2:Option Addr} {k1 d1 k2 d2:Nat} (h:CfgOk m x1 k1 d1 x2 k2 d2 w) (hb:Bx H a1 n1 c1 a2 n2 c2 w) (b1:Option Addr) (m1 t1:Nat) (b2:Option Addr) (m2 t2:Nat):CfgOk m x1 k1 d1 x2 k2 d2 ((w.setCell ⟨H,0,none⟩ (.slice b1 m1 t1)).setCell ⟨H,1,none⟩ (.slice b2 m2 t2)):=by
 obtain ⟨la,ll,e1,e2,r1,r2,h1,h2⟩:=h;exact ⟨la,ll,e1,e2,r1.put hb b1 m1 t1 b2 m2 t2,r2.put hb b1 m1 t1 b2 m2 t2,h1,h2⟩
end
def StepC (m:MdlD) (w:World) (e:Ending) (w':World):Prop:=∃ u1 k1 t1 u2 k2 t2 ec,e=.returned (.tuple #[.agg #[.slice u1 k1 t1,.slice u2 k2 t2],.int .i64 ((ec:Nat):Int)])/\Bl w w'/\(ec=0->CfgOk m u1 k1 t1 u2 k2 t2 w')
theorem zdI {B:Nat} {m:MdlD} {SB:Nat} {a1 a2:Option Addr} {n1 c1 n2 c2:Nat} {w:World} (h:SetAt B m SB w) (hm1:m.zb.length<=1000) (hm2:m.zc.length<=1000) (hc:CfgOk m a1 n1 c1 a2 n2 c2 w) (v:Int) :
   Calls prog 147 #[.pointer (some ⟨SB,0,none⟩),.agg #[.slice a1 n1 c1,.slice a2 n2 c2],.int .i64 v] w (StepC m w):=by
 obtain ⟨la,ll,rfl,rfl,r1,r2,R,F⟩:=hc;refine (ku h F.h0 hm1 hm2 la ll a1 a2 c1 c2 r1 r2 (by rw [R.fit.hl];omega) (by rw [F.hl];omega) v).mono ?_;rintro e w' ⟨hb,(⟨hn,rfl⟩ | ⟨_,_,rfl⟩ | ⟨hz,hk,v1,v2,rfl,o1,o2,_⟩)⟩
 . exact ⟨none,0,0,none,0,0,_,rfl,hb,fun h=>absurd h hn⟩
 . exact ⟨none,0,0,none,0,0,4,rfl,hb,fun h=>by cases h⟩
 . have hs:=(jv hz).2
   obtain ⟨x1,y1,rfl⟩:=zj o1;obtain ⟨x2,y2,rfl⟩:=zj o2;refine ⟨x1,_,y1,x2,_,y2,0,rfl,hb,fun _=>⟨la.set (rgA m v).toNat v,ll,List.length_set,rfl,RowIn.own (by rw [List.length_set];exact o1),RowIn.own o2,zfD R hs hk,F⟩⟩
theorem zdJ {B:Nat} {m:MdlD} {SB:Nat} {a1 a2:Option Addr} {n1 c1 n2 c2:Nat} {w:World} (h:SetAt B m SB w) (hm1:m.zb.length<=1000) (hm2:m.zc.length<=1000) (hc:CfgOk m a1 n1 c1 a2 n2 c2 w) (v:Int) :
   Calls prog 131 #[.pointer (some ⟨SB,0,none⟩),.agg #[.slice a1 n1 c1,.slice a2 n2 c2],.int .i64 v] w (StepC m w):=by
 obtain ⟨la,ll,rfl,rfl,r1,r2,R,F⟩:=hc;refine (qF h F.h0 hm1 hm2 la ll a1 a2 c1 c2 r1 r2 (by rw [R.fit.hl];omega) (by rw [F.hl];omega) v).mono ?_;rintro e w' ⟨hb,(⟨hn,rfl⟩ | ⟨_,_,rfl⟩ | ⟨hz,hk,v1,v2,rfl,o1,o2,_⟩)⟩
 . exact ⟨none,0,0,none,0,0,_,rfl,hb,fun h=>absurd h hn⟩
 . exact ⟨none,0,0,none,0,0,4,rfl,hb,fun h=>by cases h⟩
 . have hs:=(jv hz).2
   obtain ⟨x1,y1,rfl⟩:=zj o1;obtain ⟨x2,y2,rfl⟩:=zj o2;obtain ⟨k,hk',rfl,_⟩:=zD F.h0 hs;refine ⟨x1,_,y1,x2,_,y2,0,rfl,hb,fun _=>⟨la.set (rgA m k).toNat (-1),ll.set (rgA m k).toNat k,List.length_set,List.length_set,RowIn.own (by rw [List.length_set];exact o1),RowIn.own (by rw [List.length_set];exact o2),zfE R hk,j8 F hs⟩⟩
structure Nx (m:MdlD) (wo W:World) (b:Nat) (u1:Option Addr) (k1 t1:Nat) (u2:Option Addr) (k2 t2 ec:Nat):Prop where
 bel:Bl wo W
 bx:Bx b u1 k1 t1 u2 k2 t2 W
 lo:wo.heap.size<=b
 ok:ec=0->CfgOk m u1 k1 t1 u2 k2 t2 W
theorem nx_a {m:MdlD} {wo w9:World} {u1 u2:Option Addr} {k1 t1 k2 t2 ec:Nat} {zA:w9.heap[wo.heap.size]? = some (.cells #[.slice none 0 0,.slice none 0 0] 74 (0,0))} (hB:Bl wo w9) (hz:wo.heap.size<w9.heap.size) (ho:ec=0->CfgOk m u1 k1 t1 u2 k2 t2 w9) :
   Nx m wo ((w9.setCell ⟨wo.heap.size,0,none⟩ (.slice u1 k1 t1)).setCell ⟨wo.heap.size,1,none⟩ (.slice u2 k2 t2)) wo.heap.size u1 k1 t1 u2 k2 t2 ec:=by
 have hx:Bx wo.heap.size none 0 0 none 0 0 w9:=⟨zh zA 0,zh zA 1,zX zA 0,zX zA 1,hz⟩;exact ⟨(hB.setCell (p:=⟨wo.heap.size,0,none⟩) (Nat.le_refl _) _).setCell (p:=⟨wo.heap.size,1,none⟩) (Nat.le_refl _) _,hx.set _ _ _ _ _ _,Nat.le_refl _,fun h=>(ho h).put hx _ _ _ _ _ _⟩
theorem nx_b {m:MdlD} {wo w9:World} {u1 u2:Option Addr} {k1 t1 k2 t2 ec:Nat} (hB:Bl wo w9) (ho:ec=0->CfgOk m u1 k1 t1 u2 k2 t2 w9) :
   Nx m wo (w9.alloc (.cells #[.slice u1 k1 t1,.slice u2 k2 t2] 74)) w9.heap.size u1 k1 t1 u2 k2 t2 ec :=
 ⟨hB.alloc hB.size _,Bx.made w9 u1 k1 t1 u2 k2 t2 _,hB.size,fun h=>(ho h).zf (zg w9 _)⟩
structure Str (m:MdlD) (R H:Nat) (w wr:World):Prop where
 bel:Bl w wr
 rs:Bx R none 0 0 none 0 0 wr
 cb:∃ a1 n1 c1 a2 n2 c2,Bx H a1 n1 c1 a2 n2 c2 wr/\CfgOk m a1 n1 c1 a2 n2 c2 wr
theorem Str.zf {m:MdlD} {R H:Nat} {w wr wy:World} (h:Str m R H w wr) (g:Bl wr wy):Str m R H w wy:=by
 obtain ⟨a1,n1,c1,a2,n2,c2,hb,ho⟩:=h.cb;exact ⟨zi h.bel g,h.rs.zf g,a1,n1,c1,a2,n2,c2,hb.zf g,ho.zf g⟩
theorem Str.put {m:MdlD} {R H:Nat} {w wr:World} (h:Str m R H w wr) (hR:R≠H) (hH:w.heap.size<=H) {u1:Option Addr} {k1 t1:Nat} {u2:Option Addr} {k2 t2:Nat} (ho:CfgOk m u1 k1 t1 u2 k2 t2 wr):Str m R H w ((wr.setCell ⟨H,0,none⟩ (.slice u1 k1 t1)).setCell ⟨H,1,none⟩ (.slice u2 k2 t2)):=by
 obtain ⟨a1,n1,c1,a2,n2,c2,hb,_⟩:=h.cb;exact ⟨(h.bel.setCell (p:=⟨H,0,none⟩) hH _).setCell (p:=⟨H,1,none⟩) hH _,h.rs.other hR _ _,u1,k1,t1,u2,k2,t2,hb.set _ _ _ _ _ _,ho.put hb _ _ _ _ _ _⟩
theorem Str.side {m:MdlD} {R H K:Nat} {w wr:World} {a1 a2:Option Addr} {n1 c1 n2 c2:Nat} (h:Str m R H w wr) (hx:Bx K a1 n1 c1 a2 n2 c2 wr) (hR:R≠K) (hH:H≠K) (hK:w.heap.size<=K) (u1:Option Addr) (k1 t1:Nat) (u2:Option Addr) (k2 t2:Nat):Str m R H w ((wr.setCell ⟨K,0,none⟩ (.slice u1 k1 t1)).setCell ⟨K,1,none⟩ (.slice u2 k2 t2)):=by
 obtain ⟨b1,m1,d1,b2,m2,d2,hb,ho⟩:=h.cb;exact ⟨(h.bel.setCell (p:=⟨K,0,none⟩) hK _).setCell (p:=⟨K,1,none⟩) hK _,h.rs.other hR _ _,b1,m1,d1,b2,m2,d2,hb.other hH _ _,ho.put hx _ _ _ _ _ _⟩
theorem _root_.Go.RowKit.Below.two {B b:Nat} {w wx:World} (h:Below B w wx) (hb:B<=b) (u v:Value):Below B w ((wx.setCell ⟨b,0,none⟩ u).setCell ⟨b,1,none⟩ v) :=
 (h.setCell (p:=⟨b,0,none⟩) hb u).setCell (p:=⟨b,1,none⟩) hb v
theorem ju {wo w9:World} {n:Nat} (g:Below n (wo.alloc (.cells #[.slice none 0 0,.slice none 0 0] 74)).drew w9) (h:wo.heap.size<n):w9.heap[wo.heap.size]? = some (.cells #[.slice none 0 0,.slice none 0 0] 74 (0,0)) :=
 (g.block _ h).trans (World.alloc_heap_new wo (.cells #[.slice none 0 0,.slice none 0 0] 74))
theorem qf {w:World} {b:Nat} (h:w.heap[b]? = some (.cells #[.slice none 0 0,.slice none 0 0] 74 (0,0))):w.cell? ⟨b,0,none⟩=some (.slice none 0 0)/\w.cell? ⟨b,1,none⟩=some (.slice none 0 0)/\w.frozen? ⟨b,0,none⟩=false/\w.frozen? ⟨b,1,none⟩=false :=
 ⟨zh h 0,zh h 1,zX h 0,zX h 1⟩
def StartP (m:MdlD) (w:World) (e:Ending) (w':World):Prop:=∃ a1 n1 c1 a2 n2 c2,e=.returned (.agg #[.slice a1 n1 c1,.slice a2 n2 c2])/\CfgOk m a1 n1 c1 a2 n2 c2 w'/\Bl w w'
theorem zbx {B:Nat} {m:MdlD} {SB:Nat} {w:World} (h:SetAt B m SB w) (h0:riM m=(0,0,0)) (hm1:m.zb.length<=1000) (hm2:m.zc.length<=1000) (l:List Int) (av:Option Addr) (cv:Nat) (hr:RowIn w (.slice av l.length cv) l) (hl:l.length<=1000) :
   Calls prog 152 #[.pointer (some ⟨SB,0,none⟩),.slice av l.length cv] w (StartP m w):=by
 unfold StartP;have HAw:=hid (fun wx (g:Bl w wx)=>h.grown g);have HRw:=hid (fun wx (g:Bl w wx)=>(hr.zf g).len);have HBl:=hid (zbA (h.grown (zg w (.cells #[.slice none 0 0,.slice none 0 0] 74))) hm1);have HRs:=hid (Bx.made w none 0 0 none 0 0 74);have HB1:Hid (Bl w (w.alloc (.cells #[.slice none 0 0,.slice none 0 0] 74))):=hid (zg w _);have HNo:=hid (rch_none h0);have HM1:=hid hm1;have HM2:=hid hm2;have hcp:l.length<=cv:=by obtain ⟨a',c',e,h,_⟩:=hr.len;simp only [Value.slice.injEq] at e;rw [e.2.2];exact h
 obtain ⟨n,hn⟩:=ex2 l.length;have HN:=hid hn;rw [hn] at hl hcp |-;clear h h0 hr hn hm1 hm2;go_enter func152,ntmps152;go_wp2_with fail;(with_reducible refine (HBl.o).mono ?_);rintro e w2 ⟨v1,v2,rfl,o1,o2,_,g2⟩;rw [List.length_replicate] at o1 o2;obtain ⟨x1,y1,rfl⟩:=zj o1;obtain ⟨x2,y2,rfl⟩:=zj o2
 have HS0:Hid (Str m w.heap.size w2.heap.size w (w2.alloc (.cells #[.slice x1 m.zb.length y1,.slice x2 m.zb.length y2] 74))):=hid
   ⟨zi (HB1.o.trans (g2.mono HB1.o.size)) (zg _ _),(HRs.o.zf g2).zf (zg _ _),_,_,_,_,_,_,Bx.made w2 _ _ _ _ _ _ _,List.replicate m.zb.length (-1),List.replicate m.zb.length (-1),List.length_replicate,List.length_replicate,(RowIn.own (by rw [List.length_replicate];exact o1)).zf (zg _ _),(RowIn.own (by rw [List.length_replicate];exact o2)).zf (zg _ _),HNo.o,HNo.o.fit⟩
 have hz2:w.heap.size<w2.heap.size:=by have:=g2.size;rw [World.size_alloc] at this;omega
 obtain ⟨H5,hH5⟩:=ex2 w2.heap.size;rw [hH5] at HS0 hz2;clear o1 o2 g2 HBl HRs HB1 HNo;go_upto_region 2 with fail;clear hH5;generalize w2.alloc (.cells #[.slice x1 m.zb.length y1,.slice x2 m.zb.length y2] 74)=W2 at *;go_wp2_with fail
 go_loopw [6] (fun i wr=>∃ k:Nat,k<=n/\i=.int .i64 k/\Str m w.heap.size H5 w wr) (fun i _=>n - (intOf i).toNat)
 case atStart=>exact ⟨0,by omega,rfl,HS0.o⟩
 case round =>
  obtain ⟨wo,rfl⟩:=ex1 wr;obtain ⟨k,hk,rfl,hs⟩:=hrel;have HSo:=hid hs;have hzo:w.heap.size<=wo.heap.size:=hs.bel.size;obtain ⟨a1,n1,c1,a2,n2,c2,hb,ho⟩:=hs.cb;have HBo:=hid hb;have HOo:=hid ho;have hH5o:=hb.lt;clear hs hb ho HS0
  by_cases hlt:k<n
  . have hil:k<l.length:=by rw [HN.o];exact hlt
    obtain ⟨a',c',e,_,q⟩:=HRw.o wo HSo.o.bel;obtain ⟨b1,o1,ea,hbl,hcl⟩:=q k hil;simp only [Value.slice.injEq] at e;obtain ⟨rfl,e',rfl⟩:=e;clear e';subst ea;have hI:(k:Int)<(n:Int):=by omega
    have hI0:(0:Int)<=(k:Int):=by omega
    obtain ⟨y,hy⟩:=ex2 (l[k]'hil);rw [hy] at hcl;have EN:=hid (fun wx (g:Bl wo wx)=>zdI (HAw.o wx (zi HSo.o.bel g)) HM1.o HM2.o (HOo.o.zf g) y);have d0:=HBo.o.c0;have d1:=HBo.o.c1;have HSS:Hid (∀ W',Bl wo W'->W'.cell? ⟨H5,0,none⟩=some (.slice a1 n1 c1)/\W'.cell? ⟨H5,1,none⟩=some (.slice a2 n2 c2)/\W'.cell? ⟨b1,o1+k,none⟩=some (.int .i64 y)):=hid fun W' g=>⟨(g.cell (p:=⟨H5,0,none⟩) hH5o).trans d0,(g.cell (p:=⟨H5,1,none⟩) hH5o).trans d1,(g.cell (p:=⟨b1,o1+k,none⟩) hbl).trans hcl⟩;have hB0:Bl wo wo:=Below.refl _ _;clear q hy d0 d1 hcl;go_upto_region 5 with fail;refine wp_region_any (by kernel_rfl) ?_;change wpAny _ _ _ _ _ _ _ (World.drew _);refine zz (n:=12) (o:=⟨some 8,.assign (.tmp 26),61, "law.go:76", #[⟨9,.data⟩,⟨11,.chain⟩,⟨0,.phase⟩,⟨1,.phase⟩,⟨2,.phase⟩,⟨3,.phase⟩,⟨4,.phase⟩,⟨5,.phase⟩,⟨6,.phase⟩,⟨7,.phase⟩,⟨8,.phase⟩,⟨9,.phase⟩,⟨10,.phase⟩,⟨11,.phase⟩],none⟩) (ops':=#[⟨some 18,.move (.tmp 0),77, "law.go:76", #[],none⟩,⟨some 19,.load 74 (.tmp 5),74, "law.go:76", #[],none⟩,⟨some 20,.move (.tmp 1),31, "law.go:76", #[],none⟩,⟨some 21,.move (.tmp 6),3, "law.go:76", #[],none⟩,⟨some 22,.indexAddr 31 (.tmp 20) (.tmp 21),0, "law.go:76", #[⟨2,.data⟩,⟨3,.data⟩],none⟩,⟨some 23,.load 3 (.tmp 22),3, "law.go:76", #[⟨4,.data⟩],none⟩,⟨some 24,.call { callee:=.value (.func 147),args:=#[.tmp 18,.tmp 19,.tmp 23],argTypes:=#[77,74,3] },160, "law.go:76", #[⟨0,.data⟩,⟨1,.data⟩,⟨5,.data⟩],none⟩,⟨some 17,.move (.tmp 24),160, "law.go:76", #[⟨6,.data⟩],none⟩,⟨some 25,.extract (.tmp 17) 0,74, "law.go:76", #[⟨7,.data⟩],none⟩,⟨some 26,.extract (.tmp 17) 1,61, "law.go:76", #[⟨7,.data⟩,{ on:=11,ground:=.gcOnly Go.Departure.lateStores }],none⟩,⟨some 7,.alloc 74,0, "law.go:76", #[],none⟩,⟨none,.store 74 (.tmp 7) (.tmp 25),0, "law.go:76", #[⟨10,.data⟩,⟨8,.data⟩,⟨6,.chain⟩,⟨0,.phase⟩,⟨1,.phase⟩,⟨2,.phase⟩,⟨3,.phase⟩,⟨4,.phase⟩,⟨5,.phase⟩,⟨6,.phase⟩,⟨7,.phase⟩,⟨8,.phase⟩,{ on:=9,ground:=.textOnly Go.Departure.lateStores },⟨10,.phase⟩],none⟩]) (by decide) (by kernel_rfl) (by rfl) (by rfl) ?_;refine zL (S:=(fun W'=>W'.cell? ⟨H5,0,none⟩=some (.slice a1 n1 c1)/\W'.cell? ⟨H5,1,none⟩=some (.slice a2 n2 c2)/\W'.cell? ⟨b1,o1+k,none⟩=some (.int .i64 y))) ?_ (fun hHeld=>?_);(exact HSS.o _ (by first | exact hB0.drew | exact (hB0.alloc (Nat.le_refl _) _).drew | exact hB9 | exact hB9.alloc hB9.size _ | exact hB9.two (Nat.le_refl _) _ _ | exact (hB9.alloc hB9.size _).two hB9.size _ _));refine tk 0 rfl ?_;refine tk 1 rfl ?_;refine tk 2 rfl ?_;refine tk 3 rfl ?_;refine tk 4 rfl ?_;refine tk 5 rfl ?_;refine rdy [6,10] ?_;refine rdC rfl (fun K hK=>?_) ?_;(go_simp;(with_reducible refine (EN.o _ (by first | exact hB0.drew | exact (hB0.alloc (Nat.le_refl _) _).drew)).mono ?_);rintro e w9 ⟨u1,k1,t1,u2,k2,t2,ec,rfl,g9,hec⟩;have hB9:Bl wo w9:=(by first | exact zi hB0.drew g9 | exact zi (hB0.alloc (Nat.le_refl _) _).drew g9);(first | (have zA:=ju g9 (by simp);obtain ⟨za0,za1,za2,za3⟩:=qf zA) | skip);go_wp2_with fail);refine nx hK ?_ (fun hH1=>?_);(exact HSS.o _ (by first | exact hB0.drew | exact (hB0.alloc (Nat.le_refl _) _).drew | exact hB9 | exact hB9.alloc hB9.size _ | exact hB9.two (Nat.le_refl _) _ _ | exact (hB9.alloc hB9.size _).two hB9.size _ _));clear hK K hHeld;refine tk 7 rfl ?_;refine tk 8 rfl ?_;refine tk 9 rfl ?_;refine rd1 10 (fun K hK=>?_);(go_simp);refine nx hK ?_ (fun hH2=>?_);(exact HSS.o _ (by first | exact hB0.drew | exact (hB0.alloc (Nat.le_refl _) _).drew | exact hB9 | exact hB9.alloc hB9.size _ | exact hB9.two (Nat.le_refl _) _ _ | exact (hB9.alloc hB9.size _).two hB9.size _ _));clear hK K hH1;refine rd1 11 (fun K hK=>?_);(go_simp);refine nx hK ?_ (fun hH3=>?_);(exact HSS.o _ (by first | exact hB0.drew | exact (hB0.alloc (Nat.le_refl _) _).drew | exact hB9 | exact hB9.alloc hB9.size _ | exact hB9.two (Nat.le_refl _) _ _ | exact (hB9.alloc hB9.size _).two hB9.size _ _));clear hK K hH2;refine dn ?_;rotate_left;refine rdC rfl (fun K hK=>?_) ?_;(go_simp);refine nx hK ?_ (fun hH4=>?_);(exact HSS.o _ (by first | exact hB0.drew | exact (hB0.alloc (Nat.le_refl _) _).drew | exact hB9 | exact hB9.alloc hB9.size _ | exact hB9.two (Nat.le_refl _) _ _ | exact (hB9.alloc hB9.size _).two hB9.size _ _));clear hK K hHeld;refine rd1 6 (fun K hK=>?_);(go_simp;(with_reducible refine (EN.o _ (by first | exact hB0.drew | exact (hB0.alloc (Nat.le_refl _) _).drew)).mono ?_);rintro e w9 ⟨u1,k1,t1,u2,k2,t2,ec,rfl,g9,hec⟩;have hB9:Bl wo w9:=(by first | exact zi hB0.drew g9 | exact zi (hB0.alloc (Nat.le_refl _) _).drew g9);(first | (have zA:=ju g9 (by simp);obtain ⟨za0,za1,za2,za3⟩:=qf zA) | skip);go_wp2_with fail);refine nx hK ?_ (fun hH5=>?_);(exact HSS.o _ (by first | exact hB0.drew | exact (hB0.alloc (Nat.le_refl _) _).drew | exact hB9 | exact hB9.alloc hB9.size _ | exact hB9.two (Nat.le_refl _) _ _ | exact (hB9.alloc hB9.size _).two hB9.size _ _));clear hK K hH4;refine tk 7 rfl ?_;refine tk 8 rfl ?_;refine tk 9 rfl ?_;refine rd1 11 (fun K hK=>?_);(go_simp);refine nx hK ?_ (fun hH6=>?_);(exact HSS.o _ (by first | exact hB0.drew | exact (hB0.alloc (Nat.le_refl _) _).drew | exact hB9 | exact hB9.alloc hB9.size _ | exact hB9.two (Nat.le_refl _) _ _ | exact (hB9.alloc hB9.size _).two hB9.size _ _));clear hK K hH5;refine dn ?_;rotate_left;exact AllReadyH.nil
    all_goals
      refine zI fun K hK=>?_;go_simp;refine hK _ _ ?_;clear hK K
      first
        | (have HN0:=nx_a (m:=m) (zA:=zA) hB9 (by have:=g9.size;simp at this;omega) hec
           generalize ((w9.setCell ⟨wo.heap.size,0,none⟩ (.slice u1 k1 t1)).setCell ⟨wo.heap.size,1,none⟩ (.slice u2 k2 t2))=W18 at HN0 |-;generalize wo.heap.size=B18 at HN0 |-;clear zA za0 za1 za2 za3)
        | (have HN0:=nx_b (m:=m) hB9 hec
           generalize w9.alloc (.cells #[.slice u1 k1 t1,.slice u2 k2 t2] 74)=W18 at HN0 |-;generalize w9.heap.size=B18 at HN0 |-)
      have HN:=hid HN0;have HS18:=hid (HSo.o.zf HN0.bel);have HO18:=hid (HOo.o.zf HN0.bel);have hb18:=HBo.o.zf HN0.bel;have HB18:=hid hb18;have hlo:=HN0.lo;have hne:H5≠B18:=by omega
      have hneR:w.heap.size≠B18:=by omega
      have hwB:w.heap.size<=B18:=by omega
      have q0:=HN0.bx.c0;have q1:=HN0.bx.c1;have f0:=HN0.bx.f0;have f1:=HN0.bx.f1;have e0:=hb18.c0;have e1:=hb18.c1;have f2:=hb18.f0;have f3:=hb18.f1;have hw18:=hid HN0.bel;clear HN0 hb18 hec g9 hB9 hB0
      by_cases h4:ec=4
      . subst h4
        obtain ⟨_,_,hcl⟩:=HSS.o W18 hw18.o;have hl18:b1<W18.heap.size:=Nat.lt_of_lt_of_le hbl hw18.o.size;have hh18:=HB18.o.lt;have hb18:=HN.o.bx.lt;have LV:=hid (fun wx (g:Bl W18 wx)=>zdJ (HAw.o wx (zi HS18.o.bel g)) HM1.o HM2.o (HO18.o.zf g) y);have HS7:Hid (∀ W',Bl W18 W'->W'.cell? ⟨H5,0,none⟩=some (.slice a1 n1 c1)/\W'.cell? ⟨H5,1,none⟩=some (.slice a2 n2 c2)/\W'.cell? ⟨b1,o1+k,none⟩=some (.int .i64 y)):=hid fun W' g=>⟨(g.cell (p:=⟨H5,0,none⟩) hh18).trans e0,(g.cell (p:=⟨H5,1,none⟩) hh18).trans e1,(g.cell (p:=⟨b1,o1+k,none⟩) hl18).trans hcl⟩;have hb1n:b1≠B18:=by omega
        have HP7:Hid (∀ W',Bl W18 W'->∀ u v,((W'.setCell ⟨B18,0,none⟩ u).setCell ⟨B18,1,none⟩ v).cell? ⟨H5,0,none⟩=some (.slice a1 n1 c1)/\((W'.setCell ⟨B18,0,none⟩ u).setCell ⟨B18,1,none⟩ v).cell? ⟨H5,1,none⟩=some (.slice a2 n2 c2)/\((W'.setCell ⟨B18,0,none⟩ u).setCell ⟨B18,1,none⟩ v).cell? ⟨b1,o1+k,none⟩=some (.int .i64 y)):=hid fun W' g u v=>by
          have e:∀ b j,b≠B18->((W'.setCell ⟨B18,0,none⟩ u).setCell ⟨B18,1,none⟩ v).cell? ⟨b,j,none⟩=W'.cell? ⟨b,j,none⟩:=fun b j hb=>World.cell?_of_block (w:=W') ((Below.heap_setCell _ _ _ _ hb).trans (Below.heap_setCell _ _ _ _ hb));obtain ⟨s0,s1,s2⟩:=HS7.o W' g;exact ⟨(e _ _ hne).trans s0,(e _ _ hne).trans s1,(e _ _ hb1n).trans s2⟩
        have hB0:Bl W18 W18:=Below.refl _ _;clear q0 q1 f0 f1 e0 e1 f2 f3 hcl EN HSS;go_upto_region 7 with fail;refine wp_region_any (by kernel_rfl) ?_;change wpAny _ _ _ _ _ _ _ (World.drew _);refine zz (n:=11) (o:=⟨some 8,.assign (.tmp 38),61, "law.go:78", #[⟨9,.data⟩,⟨10,.chain⟩,⟨0,.phase⟩,⟨1,.phase⟩,⟨2,.phase⟩,⟨3,.phase⟩,⟨4,.phase⟩,⟨5,.phase⟩,⟨6,.phase⟩,⟨7,.phase⟩,⟨8,.phase⟩,⟨9,.phase⟩,⟨10,.phase⟩],none⟩) (ops':=#[⟨some 30,.move (.tmp 0),77, "law.go:78", #[],none⟩,⟨some 31,.load 74 (.tmp 5),74, "law.go:78", #[],none⟩,⟨some 32,.move (.tmp 1),31, "law.go:78", #[],none⟩,⟨some 33,.move (.tmp 6),3, "law.go:78", #[],none⟩,⟨some 34,.indexAddr 31 (.tmp 32) (.tmp 33),0, "law.go:78", #[⟨2,.data⟩,⟨3,.data⟩],none⟩,⟨some 35,.load 3 (.tmp 34),3, "law.go:78", #[⟨4,.data⟩],none⟩,⟨some 36,.call { callee:=.value (.func 131),args:=#[.tmp 30,.tmp 31,.tmp 35],argTypes:=#[77,74,3] },160, "law.go:78", #[⟨0,.data⟩,⟨1,.data⟩,⟨5,.data⟩],none⟩,⟨some 29,.move (.tmp 36),160, "law.go:78", #[⟨6,.data⟩],none⟩,⟨some 37,.extract (.tmp 29) 0,74, "law.go:78", #[⟨7,.data⟩],none⟩,⟨some 38,.extract (.tmp 29) 1,61, "law.go:78", #[⟨7,.data⟩,{ on:=10,ground:=.gcOnly Go.Departure.lateStores }],none⟩,⟨none,.store 74 (.tmp 7) (.tmp 37),0, "law.go:78", #[⟨8,.data⟩,⟨6,.chain⟩,⟨0,.phase⟩,⟨1,.phase⟩,⟨2,.phase⟩,⟨3,.phase⟩,⟨4,.phase⟩,⟨5,.phase⟩,⟨6,.phase⟩,⟨7,.phase⟩,⟨8,.phase⟩,{ on:=9,ground:=.textOnly Go.Departure.lateStores }],none⟩]) (by decide) (by kernel_rfl) (by rfl) (by rfl) ?_;refine hld HS7.o (hB0.drew) (fun hHeld=>?_);refine tk 0 rfl ?_;refine tk 1 rfl ?_;refine tk 2 rfl ?_;refine tk 3 rfl ?_;refine tk 4 rfl ?_;refine tk 5 rfl ?_;refine rd1 6 (fun K hK=>?_);(go_simp;(with_reducible refine (LV.o _ hB0.drew).mono ?_);rintro e w19 ⟨x1,m1,s1,x2,m2,s2,ed,rfl,g19,hed⟩;have hB19:Bl W18 w19:=zi hB0.drew g19;go_wp2_with fail);refine nx hK ?_ (fun hH1=>?_);(first | exact HS7.o _ hB0.drew | exact HS7.o _ hB19 | exact HP7.o _ hB19 _ _);clear hK K hHeld;refine tk 7 rfl ?_;refine tk 8 rfl ?_;refine tk 9 rfl ?_;refine rd1 10 (fun K hK=>?_)
        (have hx19:=HN.o.bx.zf hB19;have q0:=hx19.c0;have q1:=hx19.c1;have f0:=hx19.f0;have f1:=hx19.f1;go_simp)
        refine nx hK ?_ (fun hH2=>?_);(first | exact HS7.o _ hB0.drew | exact HS7.o _ hB19 | exact HP7.o _ hB19 _ _);clear hK K hH1;refine dn ?_;rotate_left
        all_goals
          have HS19:=hid (HS18.o.zf hB19);have HSn:=hid (HS19.o.side hx19 hneR hne hwB x1 m1 s1 x2 m2 s2);have HXn:=hid (hx19.set x1 m1 s1 x2 m2 s2);have HOn:=hid (fun h:ed=0=>(hed h).put hx19 x1 m1 s1 x2 m2 s2);refine zI fun K hK=>?_;go_simp;refine hK _ _ ?_;clear hK K;clear q0 q1 f0 f1 hx19 hed g19 hB19;generalize ((w19.setCell ⟨B18,0,none⟩ (.slice x1 m1 s1)).setCell ⟨B18,1,none⟩ (.slice x2 m2 s2))=W20 at *;have q0:=HXn.o.c0;have q1:=HXn.o.c1;obtain ⟨z1,i1,j1,z2,i2,j2,hbx,_⟩:=HSn.o.cb;have p0:=hbx.c0;have p1:=hbx.c1;have p2:=hbx.f0;have p3:=hbx.f1;clear hbx
          by_cases hz:ed=0
          . subst hz
            have HX:=hid (HSn.o.put (by omega) (by omega) (HOn.o rfl));go_wp2_with fail;go_roundw
            case rel=>exact ⟨k+1,by omega,by go_num,HX.o⟩
            case measure=>simp [intOf] <;> omega
          . have hzb:((ed:Int) == 0)=false:=by rw [beq_eq_false_iff_ne];omega
            clear hz;go_wp2_with fail;go_roundw
            case rel=>exact ⟨k+1,by omega,by go_num,HSn.o⟩
            case measure=>simp [intOf] <;> omega
      . have h4b:((ec:Int) == 4)=false:=by rw [beq_eq_false_iff_ne];omega
        by_cases hz:ec=0
        . subst hz
          have HX:=hid (HS18.o.put (by omega) (by omega) (HN.o.ok rfl));clear h4 h4b HN;go_wp2_with fail;go_roundw
          case rel=>exact ⟨k+1,by omega,by go_num,HX.o⟩
          case measure=>simp [intOf] <;> omega
        . have hzb:((ec:Int) == 0)=false:=by rw [beq_eq_false_iff_ne];omega
          clear h4 hz HN;go_wp2_with fail;go_roundw
          case rel=>exact ⟨k+1,by omega,by go_num,HS18.o⟩
          case measure=>simp [intOf] <;> omega
  . have r0:=HSo.o.rs.c0
    have r1:=HSo.o.rs.c1;have r2:=HSo.o.rs.f0;have r3:=HSo.o.rs.f1;have d0:=HBo.o.c0;have d1:=HBo.o.c1;have HE:Hid (CfgOk m a1 n1 c1 a2 n2 c2 ((wo.setCell ⟨w.heap.size,0,none⟩ (.slice a1 n1 c1)).setCell ⟨w.heap.size,1,none⟩ (.slice a2 n2 c2))/\Bl w ((wo.setCell ⟨w.heap.size,0,none⟩ (.slice a1 n1 c1)).setCell ⟨w.heap.size,1,none⟩ (.slice a2 n2 c2))):=hid ⟨HOo.o.put HSo.o.rs _ _ _ _ _ _,(HSo.o.bel.setCell (p:=⟨w.heap.size,0,none⟩) (Nat.le_refl _) _).setCell (p:=⟨w.heap.size,1,none⟩) (Nat.le_refl _) _⟩;have HE2:=hid (HSo.o.rs.set a1 n1 c1 a2 n2 c2);clear HSo HBo HOo;go_wp2_with fail;refine bodyPost_ret (v:=.agg #[.slice a1 n1 c1,.slice a2 n2 c2]) (by simp [results,results152,go_sem,r0,r1]) rfl ⟨_,_,_,_,_,_,rfl,HE.o⟩
end Go.Proofs

namespace Go.Proofs
open Go.RowKit Go.Lx Go.Md Go.Shelf Go.BigFrame
open Lib(hid)
open Go.Proofs.Tryz
set_option maxRecDepth 100000
set_option maxHeartbeats 0
set_option linter.unusedVariables false
theorem qx {w:World} {b:Nat} {cs:Array Value} {T:TypeId} (h:w.heap[b]? = some (.cells cs T (0,0))) (k:Nat):w.frozen? ⟨b,k,none⟩=false:=by
 unfold World.frozen?;simp [h]
def RefC (la ll:List Int) (w:World) (e:Ending) (w':World):Prop:=∃ v1 v2,e=.returned (.agg #[v1,v2])/\w'.ownsRow w.heap.size 3 1 v1 la.length (nums la)/\w'.ownsRow w.heap.size 3 1 v2 ll.length (nums ll)/\Bl w w'
structure Rw (a1 a2:Option Addr) (n1 c1 n2 c2:Nat) (u0 u1:Value) (w wx:World):Prop where
 bel:Bl w wx
 d0:wx.cell? ⟨w.heap.size,0,none⟩=some (.slice a1 n1 c1)
 d1:wx.cell? ⟨w.heap.size,1,none⟩=some (.slice a2 n2 c2)
 r0:wx.cell? ⟨w.heap.size+1,0,none⟩=some (.slice none 0 0)
 r1:wx.cell? ⟨w.heap.size+1,1,none⟩=some (.slice none 0 0)
 q0:wx.frozen? ⟨w.heap.size+1,0,none⟩=false
 q1:wx.frozen? ⟨w.heap.size+1,1,none⟩=false
 x0:wx.cell? ⟨w.heap.size+1+1,0,none⟩=some u0
 x1:wx.cell? ⟨w.heap.size+1+1,1,none⟩=some u1
 y0:wx.frozen? ⟨w.heap.size+1+1,0,none⟩=false
 y1:wx.frozen? ⟨w.heap.size+1+1,1,none⟩=false
 sz:w.heap.size+1+1<wx.heap.size
section
variable {a1 a2:Option Addr} {n1 c1 n2 c2:Nat} {u0 u1:Value} {w wx wy:World}
theorem Rw.zf (h:Rw a1 a2 n1 c1 n2 c2 u0 u1 w wx) (g:Bl wx wy):Rw a1 a2 n1 c1 n2 c2 u0 u1 w wy:=by
 have hz:=h.sz
 exact ⟨h.bel.trans (g.mono h.bel.size),(g.cell (p:=⟨w.heap.size,0,none⟩) (by simp only;omega)).trans h.d0,(g.cell (p:=⟨w.heap.size,1,none⟩) (by simp only;omega)).trans h.d1,(g.cell (p:=⟨w.heap.size+1,0,none⟩) (by simp only;omega)).trans h.r0,(g.cell (p:=⟨w.heap.size+1,1,none⟩) (by simp only;omega)).trans h.r1,(g.frozen (p:=⟨w.heap.size+1,0,none⟩) (by simp only;omega)).trans h.q0,(g.frozen (p:=⟨w.heap.size+1,1,none⟩) (by simp only;omega)).trans h.q1,
   (g.cell (p:=⟨w.heap.size+1+1,0,none⟩) (by simp only;omega)).trans h.x0,(g.cell (p:=⟨w.heap.size+1+1,1,none⟩) (by simp only;omega)).trans h.x1,(g.frozen (p:=⟨w.heap.size+1+1,0,none⟩) (by simp only;omega)).trans h.y0,(g.frozen (p:=⟨w.heap.size+1+1,1,none⟩) (by simp only;omega)).trans h.y1,Nat.lt_of_lt_of_le hz g.size⟩
theorem Rw.set0 (h:Rw a1 a2 n1 c1 n2 c2 u0 u1 w wx) (u:Value):Rw a1 a2 n1 c1 n2 c2 u u1 w (wx.setCell ⟨w.heap.size+1+1,0,none⟩ u):=by
 have hb:∀ b,b≠w.heap.size+1+1->(wx.setCell ⟨w.heap.size+1+1,0,none⟩ u).heap[b]? = wx.heap[b]? := fun b hb=>Below.heap_setCell _ _ _ _ hb;have hc:∀ b k,b≠w.heap.size+1+1->(wx.setCell ⟨w.heap.size+1+1,0,none⟩ u).cell? ⟨b,k,none⟩=wx.cell? ⟨b,k,none⟩:=fun b k h=>World.cell?_of_block (w:=wx) (hb b h);exact ⟨h.bel.setCell (p:=⟨w.heap.size+1+1,0,none⟩) (by simp only;omega) u,(hc _ _ (by omega)).trans h.d0,(hc _ _ (by omega)).trans h.d1,(hc _ _ (by omega)).trans h.r0,(hc _ _ (by omega)).trans h.r1,by rw [World.frozen?_setCell];exact h.q0,by rw [World.frozen?_setCell];exact h.q1,World.cell?_setCell_same _ _ _ h.x0,(World.cell?_setCell_other _ _ _ _ (by simp)).trans h.x1,by rw [World.frozen?_setCell];exact h.y0,by rw [World.frozen?_setCell];exact h.y1,by rw [World.size_setCell];exact h.sz⟩
theorem Rw.set1 (h:Rw a1 a2 n1 c1 n2 c2 u0 u1 w wx) (u:Value):Rw a1 a2 n1 c1 n2 c2 u0 u w (wx.setCell ⟨w.heap.size+1+1,1,none⟩ u):=by
 have hb:∀ b,b≠w.heap.size+1+1->(wx.setCell ⟨w.heap.size+1+1,1,none⟩ u).heap[b]? = wx.heap[b]? := fun b hb=>Below.heap_setCell _ _ _ _ hb;have hc:∀ b k,b≠w.heap.size+1+1->(wx.setCell ⟨w.heap.size+1+1,1,none⟩ u).cell? ⟨b,k,none⟩=wx.cell? ⟨b,k,none⟩:=fun b k h=>World.cell?_of_block (w:=wx) (hb b h);exact ⟨h.bel.setCell (p:=⟨w.heap.size+1+1,1,none⟩) (by simp only;omega) u,(hc _ _ (by omega)).trans h.d0,(hc _ _ (by omega)).trans h.d1,(hc _ _ (by omega)).trans h.r0,(hc _ _ (by omega)).trans h.r1,by rw [World.frozen?_setCell];exact h.q0,by rw [World.frozen?_setCell];exact h.q1,(World.cell?_setCell_other _ _ _ _ (by simp)).trans h.x0,World.cell?_setCell_same _ _ _ h.x1,by rw [World.frozen?_setCell];exact h.y0,by rw [World.frozen?_setCell];exact h.y1,by rw [World.size_setCell];exact h.sz⟩
end
theorem Rw.made (a1 a2:Option Addr) (n1 c1 n2 c2:Nat) (w:World):Rw a1 a2 n1 c1 n2 c2 (.slice none 0 0) (.slice none 0 0) w (((w.alloc (.cells #[.slice a1 n1 c1,.slice a2 n2 c2] 74)).alloc (.cells #[.slice none 0 0,.slice none 0 0] 150)).alloc (.cells #[.slice none 0 0,.slice none 0 0] 150)):=by
 have e1:=World.alloc_heap_new w (.cells #[.slice a1 n1 c1,.slice a2 n2 c2] 74);have e2:=World.alloc_heap_new (w.alloc (.cells #[.slice a1 n1 c1,.slice a2 n2 c2] 74)) (.cells #[.slice none 0 0,.slice none 0 0] 150);have e3:=World.alloc_heap_new ((w.alloc (.cells #[.slice a1 n1 c1,.slice a2 n2 c2] 74)).alloc (.cells #[.slice none 0 0,.slice none 0 0] 150)) (.cells #[.slice none 0 0,.slice none 0 0] 150);simp only [World.size_alloc] at e2 e3;have f1:=((zq (w.alloc (.cells #[.slice a1 n1 c1,.slice a2 n2 c2] 74)) (.cells #[.slice none 0 0,.slice none 0 0] 150) (.cells #[.slice none 0 0,.slice none 0 0] 150)).block w.heap.size (by simp)).trans e1;have f2:=((zg ((w.alloc (.cells #[.slice a1 n1 c1,.slice a2 n2 c2] 74)).alloc (.cells #[.slice none 0 0,.slice none 0 0] 150)) (.cells #[.slice none 0 0,.slice none 0 0] 150)).block (w.heap.size+1) (by simp)).trans e2;exact ⟨(zg w _).trans ((zq _ _ _).mono (by simp)),zh f1 0,zh f1 1,zh f2 0,zh f2 1,qx f2 0,qx f2 1,zh e3 0,zh e3 1,qx e3 0,qx e3 1,by simp⟩
theorem kt (la ll:List Int) (a1 a2:Option Addr) (c1 c2:Nat) (w:World) (h1:RowIn w (.slice a1 la.length c1) la) (h2:RowIn w (.slice a2 ll.length c2) ll) (b1:la.length<=900000) (b2:ll.length<=900000) :
   Calls prog 136 #[.agg #[.slice a1 la.length c1,.slice a2 ll.length c2]] w (RefC la ll w):=by
 obtain ⟨iI,hiI,zI0,zI1,zI2⟩:=info_parts zS;have HW:=hid (Rw.made a1 a2 la.length c1 ll.length c2 w);have H1:=hid (fun wx (g:Bl w wx)=>h1.zf g);have H2:=hid (fun wx (g:Bl w wx)=>h2.zf g);clear h1 h2;go_enter func136,ntmps136;go_upto_region 2 with fail;generalize ((w.alloc (.cells #[.slice a1 la.length c1,.slice a2 ll.length c2] 74)).alloc (.cells #[.slice none 0 0,.slice none 0 0] 150)).alloc (.cells #[.slice none 0 0,.slice none 0 0] 150)=W3 at *;obtain ⟨hb3,d0,d1,r0,r1,q0,q1,x0,x1,y0,y1,hz⟩:=HW.o;have hN:w.heap.size<=W3.heap.size:=by omega
 have HLt:=hid hz;clear hb3 hz;go_upto_region 3 with (at_builtin;refine zn _ rfl _ _ 31 rfl 3 W3.heap.size iI (.int .i64 0) underlying31 hiI zI0 zI1 zI2 rfl (.slice none 0 0) [] rfl (World.ownsRow_nil _ _ _ _) _ la rfl (H1.o _ HW.o.bel) (by simp;omega) (Nat.le_refl _) ?_;intro v4 w4 hown4 hgrow4 hnxt4;obtain ⟨x4,y4,rfl⟩:=zj hown4;have HW4:=hid (HW.o.zf ((Below.refl W3.heap.size W3).grown hgrow4 (Nat.le_refl _) (fun q hq=>by cases hq)));have HZ4:Hid (W3.heap.size<=w4.heap.size):=hid hgrow4.size;clear d0 d1 r0 r1 q0 q1 x0 x1 y0 y1;obtain ⟨hb4,d0,d1,r0,r1,q0,q1,x0,x1,y0,y1,hz⟩:=HW4.o;clear hb4 hz;have HN4:=hid hnxt4;have HO4:=hid hown4;clear hown4 hgrow4 hnxt4);have HW5:=hid (HW4.o.set0 (.slice x4 la.length y4));have HO5:=hid (ownsRow_setCell_below (a:=⟨w.heap.size+1+1,0,none⟩) HO4.o (by have:=HLt.o;simp only;omega) (.slice x4 la.length y4))
 have hz5:W3.heap.size<=(w4.setCell ⟨w.heap.size+1+1,0,none⟩ (.slice x4 la.length y4)).heap.size:=by
   rcases HO4.o.2 with ⟨e,h0⟩ | ⟨g,c',_,_,hb,hg,_⟩
   . have:=HZ4.o;rw [World.size_setCell];exact this
   . have:=HZ4.o;rw [World.size_setCell];exact this
 generalize w4.setCell ⟨w.heap.size+1+1,0,none⟩ (.slice x4 la.length y4)=W5 at *;clear d0 d1 r0 r1 q0 q1 x0 x1 y0 y1;obtain ⟨hb5,d0,d1,r0,r1,q0,q1,x0,x1,y0,y1,hz⟩:=HW5.o;clear hb5 hz HW4 HO4;go_wp2_with (at_builtin;refine zn _ rfl _ _ 31 rfl 3 W3.heap.size iI (.int .i64 0) underlying31 hiI zI0 zI1 zI2 rfl (.slice none 0 0) [] rfl (World.ownsRow_nil _ _ _ _) _ ll rfl (H2.o _ HW5.o.bel) (by simp;omega) hz5 ?_;intro v6 w6 hown6 hgrow6 hnxt6;obtain ⟨x6,y6,rfl⟩:=zj hown6;have HG6:=hid ((Below.refl W5.heap.size W5).grown hgrow6 (Nat.le_refl _) (fun q hq=>by cases hq));have HW6:=hid (HW5.o.zf HG6.o);clear d0 d1 r0 r1 q0 q1 x0 x1 y0 y1;obtain ⟨hb6,d0,d1,r0,r1,q0,q1,x0,x1,y0,y1,hz⟩:=HW6.o;clear hb6 hz;have HO6:=hid hown6;have HO56:=hid (zu HO5.o HG6.o);clear hown6 hgrow6 hnxt6);have hLt:=HLt.o;have k1:=(ownsRow_setCell_below (a:=⟨w.heap.size+1,1,none⟩) (ownsRow_setCell_below (a:=⟨w.heap.size+1,0,none⟩) (ownsRow_setCell_below (a:=⟨w.heap.size+1+1,1,none⟩) HO56.o (by simp only;omega) (.slice x6 ll.length y6)) (by simp only;omega) (.slice x4 la.length y4)) (by simp only;omega) (.slice x6 ll.length y6)).mono hN;have k2:=(ownsRow_setCell_below (a:=⟨w.heap.size+1,1,none⟩) (ownsRow_setCell_below (a:=⟨w.heap.size+1,0,none⟩) (ownsRow_setCell_below (a:=⟨w.heap.size+1+1,1,none⟩) HO6.o (by simp only;omega) (.slice x6 ll.length y6)) (by simp only;omega) (.slice x4 la.length y4)) (by simp only;omega) (.slice x6 ll.length y6)).mono hN;have kb:=((HW6.o.bel.setCell (p:=⟨w.heap.size+1+1,1,none⟩) (by simp only;omega) (.slice x6 ll.length y6)).setCell (p:=⟨w.heap.size+1,0,none⟩) (by simp only;omega) (.slice x4 la.length y4)).setCell (p:=⟨w.heap.size+1,1,none⟩) (by simp only;omega) (.slice x6 ll.length y6);refine bodyPost_ret (v:=.agg #[.slice x4 la.length y4,.slice x6 ll.length y6]) (by simp [results,results136,go_sem,r0,r1]) rfl ⟨_,_,rfl,k1,k2,kb⟩
end Go.Proofs

namespace Go.Proofs
open Go.RowKit Go.Lx Go.Md Go.Shelf Go.BigFrame Go.Rgi
open Lib(hid)
open Go.Proofs.Tryz
set_option maxRecDepth 100000
set_option maxHeartbeats 0
set_option linter.unusedVariables false
structure CfgAt (la ll:List Int) (a1:Option Addr) (n1 c1:Nat) (a2:Option Addr) (n2 c2:Nat) (w:World):Prop where
 e1:la.length=n1
 e2:ll.length=n2
 r1:RowIn w (.slice a1 n1 c1) la
 r2:RowIn w (.slice a2 n2 c2) ll
section
variable {la ll:List Int} {a1 a2:Option Addr} {n1 c1 n2 c2:Nat} {w w':World} {m:MdlD}
theorem CfgAt.zf (h:CfgAt la ll a1 n1 c1 a2 n2 c2 w) (g:Bl w w'):CfgAt la ll a1 n1 c1 a2 n2 c2 w':=⟨h.e1,h.e2,h.r1.zf g,h.r2.zf g⟩
theorem CfgAt.put {H:Nat} {x1 x2:Option Addr} {k1 d1 k2 d2:Nat} (h:CfgAt la ll a1 n1 c1 a2 n2 c2 w) (hb:Bx H x1 k1 d1 x2 k2 d2 w) (b1:Option Addr) (m1 t1:Nat) (b2:Option Addr) (m2 t2:Nat):CfgAt la ll a1 n1 c1 a2 n2 c2 ((w.setCell ⟨H,0,none⟩ (.slice b1 m1 t1)).setCell ⟨H,1,none⟩ (.slice b2 m2 t2)) :=
 ⟨h.e1,h.e2,h.r1.put hb _ _ _ _ _ _,h.r2.put hb _ _ _ _ _ _⟩
theorem CfgOk.at (h:CfgOk m a1 n1 c1 a2 n2 c2 w):∃ la ll,CfgAt la ll a1 n1 c1 a2 n2 c2 w/\Rch m la/\Fit m ll:=by
 obtain ⟨la,ll,e1,e2,r1,r2,R,F⟩:=h;exact ⟨la,ll,⟨e1,e2,r1,r2⟩,R,F⟩
theorem kV (F1:Fit m la) (F2:Fit m ll):fit2 m la ll=true:=by
 unfold fit2 fit1;rw [F1.hl,F1.hf,F2.hl,F2.hf];simp
theorem may_of (F1:Fit m la) (F2:Fit m ll) {v:Int} (hs:stands m v=true):mayE m la ll v=0:=by
 unfold mayE;rw [kV F1 F2,hs];rfl
variable {B SB:Nat}
theorem zex (h:SetAt B m SB w) (hm1:m.zb.length<=1000) (hm2:m.zc.length<=1000) (hc:CfgAt la ll a1 n1 c1 a2 n2 c2 w) (F1:Fit m la) (F2:Fit m ll) :
   Calls prog 137 #[.pointer (some ⟨SB,0,none⟩),.agg #[.slice a1 n1 c1,.slice a2 n2 c2]] w fun e w'=>e=.returned (.bool true)/\Bl w w':=by
 obtain ⟨rfl,rfl,r1,r2⟩:=hc;rw [<- kV F1 F2];exact yx h F1.h0 la ll a1 a2 c1 c2 r1 r2 (by rw [F1.hl];omega) (by rw [F2.hl];omega) (by omega)
theorem zas (h:SetAt B m SB w) (hm1:m.zb.length<=1000) (hm2:m.zc.length<=1000) (hc:CfgAt la ll a1 n1 c1 a2 n2 c2 w) (F1:Fit m la) (F2:Fit m ll) (r:Int) :
   Calls prog 130 #[.pointer (some ⟨SB,0,none⟩),.agg #[.slice a1 n1 c1,.slice a2 n2 c2],.int .i64 r] w (RowP (exitsM m la ll r) w):=by
 obtain ⟨rfl,rfl,r1,r2⟩:=hc;exact kC h F1.h0 hm1 hm2 la ll a1 a2 c1 c2 r1 r2 (by rw [F1.hl];omega) (by rw [F2.hl];omega) r
def StepAt (la ll:List Int) (n1 n2:Nat) (w:World) (e:Ending) (w':World):Prop:=∃ u1 t1 u2 t2,e=.returned (.tuple #[.agg #[.slice u1 n1 t1,.slice u2 n2 t2],.int .i64 0])/\Bl w w'/\CfgAt la ll u1 n1 t1 u2 n2 t2 w'
theorem zcS (h:SetAt B m SB w) (hm1:m.zb.length<=1000) (hm2:m.zc.length<=1000) (hc:CfgAt la ll a1 n1 c1 a2 n2 c2 w) (F1:Fit m la) (F2:Fit m ll) (v:Int) (hs:stands m v=true) (hk:leaveOk m la v=true) :
   Calls prog 131 #[.pointer (some ⟨SB,0,none⟩),.agg #[.slice a1 n1 c1,.slice a2 n2 c2],.int .i64 v] w (StepAt (la.set (rgA m v).toNat (-1)) (ll.set (rgA m v).toNat v) n1 n2 w):=by
 obtain ⟨rfl,rfl,r1,r2⟩:=hc;refine (qF h F1.h0 hm1 hm2 la ll a1 a2 c1 c2 r1 r2 (by rw [F1.hl];omega) (by rw [F2.hl];omega) v).mono ?_;rintro e w' ⟨hb,(⟨hn,_⟩ | ⟨_,hn,_⟩ | ⟨_,_,v1,v2,rfl,o1,o2,_⟩)⟩
 . exact absurd (may_of F1 F2 hs) hn
 . rw [hk] at hn;cases hn
 . obtain ⟨u1,t1,rfl⟩:=zj o1
   obtain ⟨u2,t2,rfl⟩:=zj o2;exact ⟨u1,t1,u2,t2,rfl,hb,List.length_set,List.length_set,RowIn.own (by rw [List.length_set];exact o1),RowIn.own (by rw [List.length_set];exact o2)⟩
theorem enter_ok (h:SetAt B m SB w) (hm1:m.zb.length<=1000) (hm2:m.zc.length<=1000) (hc:CfgAt la ll a1 n1 c1 a2 n2 c2 w) (F1:Fit m la) (F2:Fit m ll) (v:Int) (hs:stands m v=true) (hk:enterOk m la v=true) :
   Calls prog 147 #[.pointer (some ⟨SB,0,none⟩),.agg #[.slice a1 n1 c1,.slice a2 n2 c2],.int .i64 v] w (StepAt (la.set (rgA m v).toNat v) ll n1 n2 w):=by
 obtain ⟨rfl,rfl,r1,r2⟩:=hc;refine (ku h F1.h0 hm1 hm2 la ll a1 a2 c1 c2 r1 r2 (by rw [F1.hl];omega) (by rw [F2.hl];omega) v).mono ?_;rintro e w' ⟨hb,(⟨hn,_⟩ | ⟨_,hn,_⟩ | ⟨_,_,v1,v2,rfl,o1,o2,_⟩)⟩
 . exact absurd (may_of F1 F2 hs) hn
 . rw [hk] at hn;cases hn
 . obtain ⟨u1,t1,rfl⟩:=zj o1
   obtain ⟨u2,t2,rfl⟩:=zj o2;exact ⟨u1,t1,u2,t2,rfl,hb,List.length_set,rfl,RowIn.own (by rw [List.length_set];exact o1),RowIn.own o2⟩
structure Nc (la ll:List Int) (wo W:World) (b:Nat) (u1:Option Addr) (k1 t1:Nat) (u2:Option Addr) (k2 t2:Nat):Prop where
 bel:Bl wo W
 bx:Bx b u1 k1 t1 u2 k2 t2 W
 lo:wo.heap.size<=b
 cf:CfgAt la ll u1 k1 t1 u2 k2 t2 W
theorem nc_a {wo w9:World} {u1 u2:Option Addr} {k1 t1 k2 t2:Nat} {zA:w9.heap[wo.heap.size]? = some (.cells #[.slice none 0 0,.slice none 0 0] 74 (0,0))} (hB:Bl wo w9) (hz:wo.heap.size<w9.heap.size) (ho:CfgAt la ll u1 k1 t1 u2 k2 t2 w9) :
   Nc la ll wo ((w9.setCell ⟨wo.heap.size,0,none⟩ (.slice u1 k1 t1)).setCell ⟨wo.heap.size,1,none⟩ (.slice u2 k2 t2)) wo.heap.size u1 k1 t1 u2 k2 t2:=by
 have hx:Bx wo.heap.size none 0 0 none 0 0 w9:=⟨zh zA 0,zh zA 1,zX zA 0,zX zA 1,hz⟩;exact ⟨(hB.setCell (p:=⟨wo.heap.size,0,none⟩) (Nat.le_refl _) _).setCell (p:=⟨wo.heap.size,1,none⟩) (Nat.le_refl _) _,hx.set _ _ _ _ _ _,Nat.le_refl _,ho.put hx _ _ _ _ _ _⟩
theorem nc_b {wo w9:World} {u1 u2:Option Addr} {k1 t1 k2 t2:Nat} (hB:Bl wo w9) (ho:CfgAt la ll u1 k1 t1 u2 k2 t2 w9) :
   Nc la ll wo (w9.alloc (.cells #[.slice u1 k1 t1,.slice u2 k2 t2] 74)) w9.heap.size u1 k1 t1 u2 k2 t2 :=
 ⟨hB.alloc hB.size _,Bx.made w9 u1 k1 t1 u2 k2 t2 _,hB.size,ho.zf (zg w9 _)⟩
def RefAt (la ll:List Int) (n1 n2:Nat) (w:World) (e:Ending) (w':World):Prop:=∃ u1 t1 u2 t2,e=.returned (.agg #[.slice u1 n1 t1,.slice u2 n2 t2])/\CfgAt la ll u1 n1 t1 u2 n2 t2 w'/\Bl w w'
theorem zdK (hc:CfgAt la ll a1 n1 c1 a2 n2 c2 w) (b1:n1<=900000) (b2:n2<=900000):Calls prog 136 #[.agg #[.slice a1 n1 c1,.slice a2 n2 c2]] w (RefAt la ll n1 n2 w):=by
 obtain ⟨rfl,rfl,r1,r2⟩:=hc;refine (kt la ll a1 a2 c1 c2 w r1 r2 b1 b2).mono ?_;rintro e w' ⟨v1,v2,rfl,o1,o2,hb⟩;obtain ⟨u1,t1,rfl⟩:=zj o1;obtain ⟨u2,t2,rfl⟩:=zj o2;exact ⟨u1,t1,u2,t2,rfl,⟨rfl,rfl,RowIn.own o1,RowIn.own o2⟩,hb⟩
theorem is_at {Q:Nat->BP} {p:Ph} (h:Mod Q w m p) (hc:CfgAt la ll a1 n1 c1 a2 n2 c2 w) (F1:Fit m la) (hvl:m.zc.length<=100000) (v:Int) :
   Calls prog 127 #[stV m p,.agg #[.slice a1 n1 c1,.slice a2 n2 c2],.int .i64 v] w fun e w'=>e=.returned (.bool (isA m la v))/\Bl w w':=by
 obtain ⟨rfl,rfl,r1,r2⟩:=hc;exact j9 m p la ll a1 a2 c1 c2 v w h F1.h0 r1 F1.hl hvl
end
theorem zfp {m:MdlD} {la ll:List Int} (F:Fit m la) (F2:Fit m ll) (hs:noStray m la) (r:Int) {v:Nat} (hv:v<m.zc.length):isA m (leftM la (exitsM m la ll r)) v=(isA m la v && !inM m v r):=by
 unfold exitsM;rw [kV F F2]
 cases hr:hasR m r with
 | true =>
  obtain ⟨k,rfl,hk⟩:=jf hr;exact left_act F hs hk hv
 | false =>
  have:inM m v r=false:=by
    cases h:inM m v r with
    | false=>rfl
    | true=>rw [zaH F.h0 h] at hr;cases hr
  rw [this]
  simp [j7]
theorem zcT {m:MdlD} {la ll:List Int} {r:Int} (F:Fit m la) {i:Nat} (hi:i<(exitsM m la ll r).length):leaveOk m (leftM la ((exitsM m la ll r).take i)) (exitsM m la ll r)[i]=true/\isA m la (exitsM m la ll r)[i]=true:=by
 have e:exitsM m la ll r=[]\/∃ k:Nat,k<m.zb.length/\exitsM m la ll r=exM m la k:=by
   unfold exitsM
   split
   . rename_i hc
     rw [Bool.and_eq_true] at hc;obtain ⟨k,rfl,hk⟩:=jf hc.2;exact .inr ⟨k,hk,rfl⟩
   . exact .inl rfl
 rcases e with e | ⟨k,hk,e⟩
 . rw [e] at hi;simp at hi
 . simp only [e] at hi |-
   refine ⟨leave_at F hk hi,?_⟩;obtain ⟨j,ej,_,ha⟩:=zcf F hk (List.getElem_mem hi);rw [ej];exact ha
theorem zby {m:MdlD} {la X:List Int} (F:Fit m la) {i:Nat} (hi:i<X.length) (ha:isA m la X[i]=true):(leftM la (X.take i)).set (rgA m X[i]).toNat (-1)=leftM la (X.take (i+1)):=by
 rw [zbL F ha,List.take_succ_eq_append_getElem hi]
--IF hopscotchlaw26.some
--FI
theorem zat (a b:List Int) (v u:Value) (w:World) (ha:RowIn w v a) (hb:RowIn w u b) (hl:a.length<=1000000) (hl2:b.length<=140737488355328) :
   Calls prog 218 #[v,u] w fun e w'=>e=.returned (.bool (decide (a=b)))/\Bl w w':=by
 have HA:=hid (fun (wx:World) (g:Bl w wx)=>(ha.zf g).len);have HBb:=hid (fun (wx:World) (g:Bl w wx)=>(hb.zf g).len);obtain ⟨x1,y1,rfl,hc1,_⟩:=ha.len;obtain ⟨x2,y2,rfl,hc2,_⟩:=hb.len;have HNl:Hid (a.length≠b.length->decide (a=b)=false):=hid fun h=>decide_eq_false fun e=>h (by rw [e])
 have HNe:Hid (∀ k (h1:k<a.length) (h2:k<b.length),a[k]≠b[k]->decide (a=b)=false):=hid fun k h1 h2 h=>decide_eq_false fun e=>h (by subst e;rfl)
 have HEq:Hid (a.length=b.length->(∀ k (h1:k<a.length) (h2:k<b.length),a[k]=b[k])->decide (a=b)=true):=hid fun h hh=>decide_eq_true (List.ext_getElem h hh);generalize decide (a=b)=X at *;clear ha hb;go_enter func218,ntmps218
 by_cases hn:a.length=b.length
 rotate_left
 . have HX:=hid (HNl.o hn)
   have hd:((a.length:Int) != (b.length:Int))=true:=by simp only [bne_iff_ne,ne_eq];omega
   clear HEq HNe HNl hn;go_wp2_with fail;go_ret;exact ⟨by rw [HX.o];first | done | rfl,Below.refl _ _⟩
 have HN:=hid hn;have hd:((a.length:Int) != (b.length:Int))=false:=by simp only [bne_eq_false_iff_eq];omega
 clear HNl hn;go_wp2_with fail
 go_loopw [13] (fun i wr=>∃ k:Nat,k<=a.length/\i=.int .i64 k/\Bl w wr/\∀ j (h1:j<a.length) (h2:j<b.length),j<k->a[j]=b[j]) (fun i _=>a.length - (intOf i).toNat)
 case atStart=>exact ⟨0,by omega,rfl,Below.refl _ _,fun j _ _ hj=>by omega⟩
 case round =>
  obtain ⟨wo,rfl⟩:=ex1 wr;obtain ⟨k,hk,rfl,hb,hno⟩:=hrel;have HB:=hid hb;have HNo:=hid hno;clear hb hno
  by_cases hlt:k<a.length
  . have hlt2:k<b.length:=by rw [<- HN.o];exact hlt
    obtain ⟨a',c',e,z1,q⟩:=HA.o wo HB.o;obtain ⟨b1,o1,ea,hbl,hcl⟩:=q k hlt;simp only [Value.slice.injEq] at e;obtain ⟨rfl,z2,rfl⟩:=e;subst ea;obtain ⟨a'',c'',e,z3,q2⟩:=HBb.o wo HB.o;obtain ⟨b2,o2,ea,hbl2,hcl2⟩:=q2 k hlt2;simp only [Value.slice.injEq] at e;obtain ⟨rfl,z4,rfl⟩:=e;subst ea;have hI:(k:Int)<(a.length:Int):=by omega
    have hI2:(k:Int)<(b.length:Int):=by omega
    have hI0:(0:Int)<=(k:Int):=by omega
    have HNk:=hid (HNe.o k hlt hlt2)
    have HSk:Hid (a[k]=b[k]->∀ j (h1:j<a.length) (h2:j<b.length),j<k+1->a[j]=b[j]):=hid fun h j h1 h2 hj=>by
      by_cases e:j=k
      . subst e;exact h
      . exact HNo.o j h1 h2 (by omega)
    obtain ⟨y,hy⟩:=ex2 (a[k]);obtain ⟨z,hz⟩:=ex2 (b[k]);rw [hy] at hcl HNk HSk;rw [hz] at hcl2 HNk HSk;clear q q2 hy hz z1 z2 z3 z4
    by_cases h:y=z
    . have HNx:=hid (HSk.o h)
      have hd2:(y != z)=false:=by simp only [bne_eq_false_iff_eq];exact h
      clear h HSk HNk;go_upto_region 6 with fail
      go_quiet (fail)
      go_wp2_with fail;go_roundw
      case rel=>exact ⟨k+1,by omega,by go_num,below_drewN HB.o _,HNx.o⟩
      case measure=>simp [intOf] <;> omega
    . have HX:=hid (HNk.o h)
      have hd2:(y != z)=true:=by simp only [bne_iff_ne,ne_eq];exact h
      clear h HSk HNk;go_upto_region 6 with fail
      go_quiet (fail)
      go_wp2_with fail;go_ret;exact ⟨by rw [HX.o];first | done | rfl,below_drewN HB.o _⟩
  . have HX:=hid (HEq.o HN.o fun j h1 h2=>HNo.o j h1 h2 (by omega))
    go_wp2_with fail;go_ret;exact ⟨by rw [HX.o];first | done | rfl,HB.o⟩
def sameC (a b c d:List Int):Bool:=decide (a=c) && decide (b=d)
theorem zcU (la ll da dl:List Int) (a1 a2 a3 a4:Option Addr) (c1 c2 c3 c4:Nat) (w:World) (h1:RowIn w (.slice a1 la.length c1) la) (h2:RowIn w (.slice a2 ll.length c2) ll) (h3:RowIn w (.slice a3 da.length c3) da) (h4:RowIn w (.slice a4 dl.length c4) dl) (b1:la.length<=1000000) (b2:ll.length<=1000000) (b3:da.length<=1000000) (b4:dl.length<=1000000) :
   Calls prog 128 #[.agg #[.slice a1 la.length c1,.slice a2 ll.length c2],.agg #[.slice a3 da.length c3,.slice a4 dl.length c4]] w fun e w'=>e=.returned (.bool (sameC la ll da dl))/\Bl w w':=by
 have HB:Hid (Bl w ((w.alloc (.cells #[.slice a1 la.length c1,.slice a2 ll.length c2] 74)).alloc (.cells #[.slice a3 da.length c3,.slice a4 dl.length c4] 74))):=hid (zq w _ _);have HC:=hid ((Cb.made h1 h2).zf (zg _ (.cells #[.slice a3 da.length c3,.slice a4 dl.length c4] 74)));have HD:=hid (Cb.made (h3.zf (zg w (.cells #[.slice a1 la.length c1,.slice a2 ll.length c2] 74))) (h4.zf (zg w (.cells #[.slice a1 la.length c1,.slice a2 ll.length c2] 74))));rw [World.size_alloc] at HD;have HS:Hid (∀ x y,decide (la=da)=x->decide (ll=dl)=y->sameC la ll da dl=(x && y)):=hid fun x y hx hy=>by unfold sameC;rw [hx,hy]
 have E1:=hid (fun wx (g1:Cb la ll a1 a2 c1 c2 w.heap.size wx) (g2:Cb da dl a3 a4 c3 c4 (w.heap.size+1) wx)=>zat la da _ _ wx g1.r1 g2.r1 b1 (by omega));have E2:=hid (fun wx (g1:Cb la ll a1 a2 c1 c2 w.heap.size wx) (g2:Cb da dl a3 a4 c3 c4 (w.heap.size+1) wx)=>zat ll dl _ _ wx g1.r2 g2.r2 b2 (by omega));generalize sameC la ll da dl=X at *;generalize decide (la=da)=x at *;generalize decide (ll=dl)=y at *;clear h1 h2 h3 h4 b1 b2 b3 b4;go_enter func128,ntmps128;go_upto_region 1 with fail;generalize (w.alloc (.cells #[.slice a1 la.length c1,.slice a2 ll.length c2] 74)).alloc (.cells #[.slice a3 da.length c3,.slice a4 dl.length c4] 74)=W1 at *;have d0:=HC.o.d0;have d1:=HC.o.d1;have d2:=HD.o.d0;have d3:=HD.o.d1;have E1x:=hid (E1.o W1 HC.o HD.o)
 cases x
 . have hX:X=false:=HS.o false y rfl rfl
   subst hX;go_wp2_with fail;(with_reducible refine (E1x.o).mono ?_);rintro e w3 ⟨rfl,g3⟩;go_wp2_with fail;go_ret;exact ⟨rfl,HB.o.trans (g3.mono HB.o.size)⟩
 . go_wp2_with fail
   (with_reducible refine (E1x.o).mono ?_);rintro e w3 ⟨rfl,g3⟩;have HB3:=hid (HB.o.trans (g3.mono HB.o.size));have E2x:=hid (E2.o w3 (HC.o.zf g3) (HD.o.zf g3));have HC3:=hid (HC.o.zf g3);have HD3:=hid (HD.o.zf g3);clear d0 d1 d2 d3 g3;have d0:=HC3.o.d0;have d1:=HC3.o.d1;have d2:=HD3.o.d0;have d3:=HD3.o.d1;have hX:X=y:=HS.o true y rfl rfl;subst hX;go_wp2_with fail;(with_reducible refine (E2x.o).mono ?_);rintro e w4 ⟨rfl,g4⟩;go_wp2_with fail;go_ret;exact ⟨rfl,HB3.o.trans (g4.mono HB3.o.size)⟩
structure Sm20 (m:MdlD):Prop where
 rg:m.zb.length<=30
 vr:m.zc.length<=40
 tr:m.ze.length<=40
 few:FewP m
theorem jk {Q:Nat->BP} (m:MdlD) (p:Ph) (w:World) (h:Mod Q w m p) (hm:MdlOk m) :
   Calls prog 133 #[mdV m p] w fun e w'=>BoolSays (Sm20 m) e/\Bl w w':=by
 have HB:=hid (Mb.made h);have HF:=hid (fun wx (g:Mb m p w.heap.size w wx)=>few_any m p wx g.mod hm);unfold mdV at HF |-;have b1:=hm.zb;have b2:=hm.zc;have b3:=hm.ze;clear h hm
 by_cases h1:m.zb.length<=30
 . have d1:decide ((m.zb.length:Int)<=30)=true:=by simp;omega
   by_cases h2:m.zc.length<=40
   . have d2:decide ((m.zc.length:Int)<=40)=true:=by simp;omega
     by_cases h3:m.ze.length<=40
     . have d3:decide ((m.ze.length:Int)<=40)=true:=by simp;omega
       go_enter func133,ntmps133;go_wp2_with fail;(with_reducible refine (HF.o _ HB.o).mono ?_);rintro e w2 ⟨⟨b,rfl,hs⟩,g2⟩;have HB2:=hid (HB.o.zf g2);have HSt:=hid hs;clear g2 HF HB hs;go_wp2_with fail;go_ret;exact ⟨⟨b,rfl,fun ht=>⟨h1,h2,h3,HSt.o ht⟩⟩,HB2.o.bel⟩
     . have d3:decide ((m.ze.length:Int)<=40)=false:=by simp;omega
       go_enter func133,ntmps133;go_wp2_with fail;go_ret;exact ⟨⟨false,rfl,fun ht=>by cases ht⟩,HB.o.bel⟩
   . have d2:decide ((m.zc.length:Int)<=40)=false:=by simp;omega
     go_enter func133,ntmps133;go_wp2_with fail;go_ret;exact ⟨⟨false,rfl,fun ht=>by cases ht⟩,HB.o.bel⟩
 . have d1:decide ((m.zb.length:Int)<=30)=false:=by simp;omega
   go_enter func133,ntmps133;go_wp2_with fail;go_ret;exact ⟨⟨false,rfl,fun ht=>by cases ht⟩,HB.o.bel⟩
theorem jl (la ll da dl:List Int) (a1 a2 a3 a4:Option Addr) (c1 c2 c3 c4:Nat) (w:World) (h1:RowIn w (.slice a1 la.length c1) la) (h2:RowIn w (.slice a2 ll.length c2) ll) (h3:RowIn w (.slice a3 da.length c3) da) (h4:RowIn w (.slice a4 dl.length c4) dl) (b1:la.length<=900000) (b2:ll.length<=900000) (b3:da.length<=900000) (b4:dl.length<=900000) :
   Calls prog 150 #[.agg #[.slice a1 la.length c1,.slice a2 ll.length c2],.agg #[.slice a3 da.length c3,.slice a4 dl.length c4]] w fun e w'=>e=.returned (.bool (sameC la ll da dl))/\Bl w w':=by
 have HB:=hid (zq w (.cells #[.slice a1 la.length c1,.slice a2 ll.length c2] 74) (.cells #[.slice a3 da.length c3,.slice a4 dl.length c4] 150));have S1:=hid (fun wx (g:Bl w wx)=>qL la da _ _ wx (h1.zf g) (h3.zf g) (by omega) (by omega));have S2:=hid (fun wx (g:Bl w wx)=>qL ll dl _ _ wx (h2.zf g) (h4.zf g) (by omega) (by omega));have HS:Hid (∀ x y,decide (la=da)=x->decide (ll=dl)=y->sameC la ll da dl=(x && y)):=hid fun x y hx hy=>by unfold sameC;rw [hx,hy]
 have HD:Hid (∀ wx,Below ((w.alloc (.cells #[.slice a1 la.length c1,.slice a2 ll.length c2] 74)).alloc (.cells #[.slice a3 da.length c3,.slice a4 dl.length c4] 150)).heap.size ((w.alloc (.cells #[.slice a1 la.length c1,.slice a2 ll.length c2] 74)).alloc (.cells #[.slice a3 da.length c3,.slice a4 dl.length c4] 150)) wx->wx.cell? ⟨w.heap.size,1,none⟩=some (.slice a2 ll.length c2)/\wx.cell? ⟨w.heap.size+1,1,none⟩=some (.slice a4 dl.length c4)):=hid fun wx g=>⟨(g.cell (p:=⟨w.heap.size,1,none⟩) (by simp;omega)).trans (by simp),(g.cell (p:=⟨w.heap.size+1,1,none⟩) (by simp)).trans (by simp)⟩
 unfold SameP at S1 S2;generalize sameC la ll da dl=X at *;generalize decide (la=da)=x at *;generalize decide (ll=dl)=y at *;clear h1 h2 h3 h4;go_enter func150,ntmps150;go_wp2_with fail;(with_reducible refine (S1.o _ HB.o).mono ?_);rintro e w3 ⟨rfl,g3⟩;obtain ⟨d0,d1⟩:=HD.o w3 g3;have HB3:=hid (HB.o.trans (g3.mono HB.o.size));clear g3
 cases x
 . have hX:X=false:=HS.o false y rfl rfl
   subst hX;go_wp2_with fail;go_ret;exact ⟨rfl,HB3.o⟩
 . have hX:X=y:=HS.o true y rfl rfl
   subst hX;go_wp2_with fail;(with_reducible refine (S2.o _ HB3.o).mono ?_);rintro e w4 ⟨rfl,g4⟩;go_wp2_with fail;go_ret;exact ⟨rfl,HB3.o.trans (g4.mono HB3.o.size)⟩
theorem SetAt.low {B C:Nat} {m:MdlD} {SB:Nat} {w:World} (h:SetAt B m SB w) (hC:C<=B):SetAt C m SB w:=by
 obtain ⟨IB,kv,h1,r⟩:=h;exact ⟨IB,kv,h1.low' hC,r⟩
theorem SetAt.six {B H:Nat} {m:MdlD} {SB:Nat} {w w':World} (h:SetAt B m SB w) (s:Six H w w') (hH:H<B) (hn:∀ j x,w.cell? ⟨H,j,none⟩≠some (.int .u8 x)) (hp:∀ x,w.cell? ⟨H,0,none⟩≠some (.pointer x)):SetAt B m SB w':=by
 obtain ⟨IB,kv,h1,h2,h3,h4,h5,h6⟩:=h;have hne:SB≠H:=fun e=>by subst e;exact hp _ h2
 have hc:∀ b j,b≠H->w'.cell? ⟨b,j,none⟩=w.cell? ⟨b,j,none⟩:=fun b j h=>World.cell?_of_block (w:=w) (s.blk b h);refine ⟨IB,kv,h1.keep (by rw [s.size];exact Nat.le_refl _) (fun b hb1 _=>s.blk b (by omega)),(hc _ _ hne).trans h2,(hc _ _ hne).trans h3,(hc _ _ hne).trans h4,?_,by rw [s.size];exact h6⟩
 rcases h5 with h5 | ⟨b,off,c,e,g1,g2,g3⟩
 . exact .inl h5
 . refine .inr ⟨b,off,c,e,g1,by rw [s.size];exact g2,fun j hj=>?_⟩
   have:b≠H:=fun e=>by subst e;exact hn _ _ (g3 j hj)
   exact (hc _ _ this).trans (g3 j hj)
def zero12:List Value:=[.string ⟨#[]⟩,.slice none 0 0,.slice none 0 0,.slice none 0 0,.slice none 0 0,.slice none 0 0,.string ⟨#[]⟩,.slice none 0 0,.slice none 0 0,.slice none 0 0,.slice none 0 0,.slice none 0 0]
theorem zo {w:World} {N T g:Nat} {xs:List Value} (h:w.ownsRow N T 12 (.slice (some ⟨g,0,none⟩) 1 1) 1 xs) (j:Nat):w.cell? ⟨g,j,none⟩=xs[j]? := by
 by_cases hj:j<12
 . exact h.cellAt j (by omega)
 . obtain ⟨h1,h2⟩:=h
   rcases h2 with ⟨h0,_⟩ | ⟨g',c',cur,hv,hg,hh,hn,hcap,hsz,ht⟩
   . cases h0
   . cases hv
     rw [List.getElem?_eq_none (by omega)];unfold World.cell?;simp only [hh]
     simp
     omega
theorem zfq {w:World} {N T g:Nat} (h:w.ownsRow N T 12 (.slice (some ⟨g,0,none⟩) 1 1) 1 zero12) (j:Nat) (x:Int):w.cell? ⟨g,j,none⟩≠some (.int .u8 x):=fun e=>by
 rw [zo h] at e;have:=List.mem_of_getElem? e
 simp [zero12] at this
theorem zdL {w:World} {N T g:Nat} (h:w.ownsRow N T 12 (.slice (some ⟨g,0,none⟩) 1 1) 1 zero12) (x:Option Addr):w.cell? ⟨g,0,none⟩≠some (.pointer x):=fun e=>by
 rw [zo h] at e;have:=List.mem_of_getElem? e
 simp [zero12] at this
theorem zcV (w:World) (T:TypeId):(w.alloc (.cells #[.string ⟨#[]⟩,.slice none 0 0,.slice none 0 0,.slice none 0 0,.slice none 0 0,.slice none 0 0,.string ⟨#[]⟩,.slice none 0 0,.slice none 0 0,.slice none 0 0,.slice none 0 0,.slice none 0 0] T)).ownsRow 0 T 12 (.slice (some ⟨w.heap.size,0,none⟩) 1 1) 1 zero12 :=
 ⟨rfl,.inr ⟨w.heap.size,1,_,rfl,Nat.zero_le _,World.alloc_heap_new w _,Nat.le_refl _,by unfold maxLen;omega,rfl,rfl⟩⟩
def BothS (m:MdlD) (w:World) (e:Ending) (w':World):Prop:=Bl w w'/\∃ pr:Ph,((riM m=(0,0,0)/\∃ SB,e=.returned (.tuple #[.pointer (some ⟨SB,0,none⟩),stV m pr,.bool true,.bool true])/\SetAt w.heap.size m SB w'/\Mod anyM w' m pr) \/
 ((riM m).2.2≠0/\e=.returned (.tuple #[.pointer none,stV m pr,.bool false,.bool true])))
theorem twelve {w:World} {H:Nat} {m:MdlD} {p:Ph} {w':World} (h:w.ownsRow 0 168 12 (.slice (some ⟨H,0,none⟩) 1 1) 1 zero12)
   (e:w'=(((((((((((w.setCell ⟨H,0,none⟩ (.string m.nm)).setCell ⟨H,1,none⟩ (.slice p.a1 m.vars.length p.c1)).setCell ⟨H,2,none⟩ (.slice p.a2 m.za.length p.c2)).setCell ⟨H,3,none⟩ (.slice p.a3 m.zb.length p.c3)).setCell ⟨H,4,none⟩ (.slice p.a4 m.zc.length p.c4)).setCell ⟨H,5,none⟩ (.slice p.a5 m.ze.length p.c5)).setCell ⟨H,6,none⟩ (.string m.nm)).setCell ⟨H,7,none⟩ (.slice p.a1 m.vars.length p.c1)).setCell ⟨H,8,none⟩ (.slice p.a2 m.za.length p.c2)).setCell ⟨H,9,none⟩ (.slice p.a3 m.zb.length p.c3)).setCell ⟨H,10,none⟩ (.slice p.a4 m.zc.length p.c4)).setCell ⟨H,11,none⟩ (.slice p.a5 m.ze.length p.c5)) :
   Six H w w'/\w'.ownsRow 0 168 12 (.slice (some ⟨H,0,none⟩) 1 1) 1 [.string m.nm,.slice p.a1 m.vars.length p.c1,.slice p.a2 m.za.length p.c2,.slice p.a3 m.zb.length p.c3,.slice p.a4 m.zc.length p.c4,.slice p.a5 m.ze.length p.c5,.string m.nm,.slice p.a1 m.vars.length p.c1,.slice p.a2 m.za.length p.c2,.slice p.a3 m.zb.length p.c3,.slice p.a4 m.zc.length p.c4,.slice p.a5 m.ze.length p.c5]:=by
 subst e;refine ⟨(((((((((((((Six.refl H w).set _).set _).set _).set _).set _).set _).set _).set _).set _).set _).set _).set _),?_⟩;have:=((((((((((((h.stored 0 (.string m.nm)).1.stored 1 (.slice p.a1 m.vars.length p.c1)).1.stored 2 (.slice p.a2 m.za.length p.c2)).1.stored 3 (.slice p.a3 m.zb.length p.c3)).1.stored 4 (.slice p.a4 m.zc.length p.c4)).1.stored 5 (.slice p.a5 m.ze.length p.c5)).1.stored 6 (.string m.nm)).1.stored 7 (.slice p.a1 m.vars.length p.c1)).1.stored 8 (.slice p.a2 m.za.length p.c2)).1.stored 9 (.slice p.a3 m.zb.length p.c3)).1.stored 10 (.slice p.a4 m.zc.length p.c4)).1.stored 11 (.slice p.a5 m.ze.length p.c5)).1;exact this
theorem jK {Q:Nat->BP} (m:MdlD) (p:Ph) (w:World) (h:Mod Q w m p) (hm:MdlOk m) (hT:Tab w) (hs:Sm20 m) :
   Calls prog 135 #[mdV m p] w (BothS m w):=by
 have hsm:=few_sml hs.few;have HB:=hid ((Mb.made h).zf (zg _ (.cells #[.string ⟨#[]⟩,.slice none 0 0,.slice none 0 0,.slice none 0 0,.slice none 0 0,.slice none 0 0,.string ⟨#[]⟩,.slice none 0 0,.slice none 0 0,.slice none 0 0,.slice none 0 0,.slice none 0 0] 168)))
 have HZ:Hid (((w.alloc (.cells #[.string m.nm,.slice p.a1 m.vars.length p.c1,.slice p.a2 m.za.length p.c2,.slice p.a3 m.zb.length p.c3,.slice p.a4 m.zc.length p.c4,.slice p.a5 m.ze.length p.c5] 28)).alloc (.cells #[.string ⟨#[]⟩,.slice none 0 0,.slice none 0 0,.slice none 0 0,.slice none 0 0,.slice none 0 0,.string ⟨#[]⟩,.slice none 0 0,.slice none 0 0,.slice none 0 0,.slice none 0 0,.slice none 0 0] 168)).ownsRow 0 168 12 (.slice (some ⟨w.heap.size+1,0,none⟩) 1 1) 1 zero12):=hid (by
   have:=zcV (w.alloc (.cells #[.string m.nm,.slice p.a1 m.vars.length p.c1,.slice p.a2 m.za.length p.c2,.slice p.a3 m.zb.length p.c3,.slice p.a4 m.zc.length p.c4,.slice p.a5 m.ze.length p.c5] 28)) 168;rw [World.size_alloc] at this;exact this)
 have RF:=hid (fun wx (g:Mb m p w.heap.size w wx)=>ref_low m p wx g.mod hsm);have RR:=hid (fun (pr:Ph) wx (hx:Mod anyM wx m pr)=>zd8 m pr wx hx hm);have NW:=hid (fun wx (g:Mb m p w.heap.size w wx)=>kL m p wx g.mod hm (hT.next g.bel) (by have:=hs.vr;omega) (by have:=hs.rg;omega) (by have:=hs.tr;omega));have OF:=hid (fun (pr:Ph) wx=>sof_any m pr wx);unfold mdV at RF RR NW OF |-;clear h hm hT hs hsm;go_enter func135,ntmps135;go_wp2_with fail;(with_reducible refine (RF.o _ HB.o).mono ?_);rintro e w3 ⟨pr1,rfl,hmr,g3⟩;have HB3:=hid (HB.o.zf g3);have HZ3:=hid (zu HZ.o g3);have HMR:=hid hmr.any;clear hmr g3 HB HZ;unfold mdV;go_wp2_with fail;(with_reducible refine (RR.o pr1 _ HMR.o).mono ?_);rintro e w4 ⟨rfl,g4⟩;have HB4:=hid (HB3.o.zf g4);have HZ4:=hid (zu HZ3.o g4);clear g4 HB3 HZ3 HMR RR;obtain ⟨x0,x1,x2,x3,x4,x5,_⟩:=HB4.o.box;go_wp2_with fail;(with_reducible refine (NW.o _ HB4.o).mono ?_);rintro e w5 ⟨g5,(⟨hr,SB,rfl,hi⟩ | ⟨hr,rfl⟩)⟩
 . have HB5:=hid (HB4.o.zf g5)
   have HZ5:=hid (zu HZ4.o g5);have HI5:=hid hi;have HR:=hid hr;have hz4:Hid (w.heap.size+1<w4.heap.size):=hid (HZ4.o.lt (w.heap.size+1) rfl).2;rw [hr];clear g5 hi HB4 HZ4 x0 x1 x2 x3 x4 x5 NW hr;obtain ⟨x0,x1,x2,x3,x4,x5,_⟩:=HB5.o.box;go_wp2_with fail;(with_reducible refine (RF.o _ HB5.o).mono ?_);rintro e w6 ⟨pr,rfl,hmr,g6⟩;have hz5:Hid (w.heap.size+1<w5.heap.size):=hid (HZ5.o.lt (w.heap.size+1) rfl).2;have HB6:=hid (HB5.o.zf g6);have HZ6:=hid (zu HZ5.o g6);have HI6:=hid (HI5.o.grown g6);have HMR:=hid hmr;have OFx:=hid (OF.o pr w6);clear g6 hmr HB5 HZ5 HI5 x0 x1 x2 x3 x4 x5 RF OF;unfold mdV;unfold stV at OFx;go_wp2_with fail;(with_reducible refine (OFx.o).mono ?_);rintro e w7 ⟨rfl,g7⟩;have HB7:=hid (HB6.o.zf g7);have HZ7:=hid (zu HZ6.o g7);have HI7:=hid (HI6.o.grown g7);have HG7:=hid g7;clear g7 HB6 HZ6 HI6 OFx;have z0:w7.cell? ⟨w.heap.size+1,0,none⟩=some (.string ⟨#[]⟩):=zo HZ7.o 0;have f0:=HZ7.o.frozenAt 0;have z1:w7.cell? ⟨w.heap.size+1,1,none⟩=some (.slice none 0 0):=zo HZ7.o 1;have f1:=HZ7.o.frozenAt 1;have z2:w7.cell? ⟨w.heap.size+1,2,none⟩=some (.slice none 0 0):=zo HZ7.o 2;have f2:=HZ7.o.frozenAt 2;have z3:w7.cell? ⟨w.heap.size+1,3,none⟩=some (.slice none 0 0):=zo HZ7.o 3;have f3:=HZ7.o.frozenAt 3;have z4:w7.cell? ⟨w.heap.size+1,4,none⟩=some (.slice none 0 0):=zo HZ7.o 4;have f4:=HZ7.o.frozenAt 4;have z5:w7.cell? ⟨w.heap.size+1,5,none⟩=some (.slice none 0 0):=zo HZ7.o 5;have f5:=HZ7.o.frozenAt 5;have z6:w7.cell? ⟨w.heap.size+1,6,none⟩=some (.string ⟨#[]⟩):=zo HZ7.o 6;have f6:=HZ7.o.frozenAt 6;have z7:w7.cell? ⟨w.heap.size+1,7,none⟩=some (.slice none 0 0):=zo HZ7.o 7;have f7:=HZ7.o.frozenAt 7;have z8:w7.cell? ⟨w.heap.size+1,8,none⟩=some (.slice none 0 0):=zo HZ7.o 8;have f8:=HZ7.o.frozenAt 8;have z9:w7.cell? ⟨w.heap.size+1,9,none⟩=some (.slice none 0 0):=zo HZ7.o 9;have f9:=HZ7.o.frozenAt 9;have z10:w7.cell? ⟨w.heap.size+1,10,none⟩=some (.slice none 0 0):=zo HZ7.o 10;have f10:=HZ7.o.frozenAt 10;have z11:w7.cell? ⟨w.heap.size+1,11,none⟩=some (.slice none 0 0):=zo HZ7.o 11;have f11:=HZ7.o.frozenAt 11;go_wp2_with fail;clear z0 f0 z1 f1 z2 f2 z3 f3 z4 f4 z5 f5 z6 f6 z7 f7 z8 f8 z9 f9 z10 f10 z11 f11;have HT0:=twelve (m:=m) (p:=pr) HZ7.o rfl;generalize ((((((((((((w7.setCell ⟨w.heap.size+1,0,none⟩ (.string m.nm)).setCell ⟨w.heap.size+1,1,none⟩ (.slice pr.a1 m.vars.length pr.c1)).setCell ⟨w.heap.size+1,2,none⟩ (.slice pr.a2 m.za.length pr.c2)).setCell ⟨w.heap.size+1,3,none⟩ (.slice pr.a3 m.zb.length pr.c3)).setCell ⟨w.heap.size+1,4,none⟩ (.slice pr.a4 m.zc.length pr.c4)).setCell ⟨w.heap.size+1,5,none⟩ (.slice pr.a5 m.ze.length pr.c5)).setCell ⟨w.heap.size+1,6,none⟩ (.string m.nm)).setCell ⟨w.heap.size+1,7,none⟩ (.slice pr.a1 m.vars.length pr.c1)).setCell ⟨w.heap.size+1,8,none⟩ (.slice pr.a2 m.za.length pr.c2)).setCell ⟨w.heap.size+1,9,none⟩ (.slice pr.a3 m.zb.length pr.c3)).setCell ⟨w.heap.size+1,10,none⟩ (.slice pr.a4 m.zc.length pr.c4)).setCell ⟨w.heap.size+1,11,none⟩ (.slice pr.a5 m.ze.length pr.c5))=W9 at *;have HS:=hid HT0.1;have HX:=hid HT0.2;clear HT0;have y0:W9.cell? ⟨w.heap.size+1,0,none⟩=some (.string m.nm):=zo HX.o 0;have y1:W9.cell? ⟨w.heap.size+1,1,none⟩=some (.slice pr.a1 m.vars.length pr.c1):=zo HX.o 1;have y2:W9.cell? ⟨w.heap.size+1,2,none⟩=some (.slice pr.a2 m.za.length pr.c2):=zo HX.o 2;have y3:W9.cell? ⟨w.heap.size+1,3,none⟩=some (.slice pr.a3 m.zb.length pr.c3):=zo HX.o 3;have y4:W9.cell? ⟨w.heap.size+1,4,none⟩=some (.slice pr.a4 m.zc.length pr.c4):=zo HX.o 4;have y5:W9.cell? ⟨w.heap.size+1,5,none⟩=some (.slice pr.a5 m.ze.length pr.c5):=zo HX.o 5;have y6:W9.cell? ⟨w.heap.size+1,6,none⟩=some (.string m.nm):=zo HX.o 6;have y7:W9.cell? ⟨w.heap.size+1,7,none⟩=some (.slice pr.a1 m.vars.length pr.c1):=zo HX.o 7;have y8:W9.cell? ⟨w.heap.size+1,8,none⟩=some (.slice pr.a2 m.za.length pr.c2):=zo HX.o 8;have y9:W9.cell? ⟨w.heap.size+1,9,none⟩=some (.slice pr.a3 m.zb.length pr.c3):=zo HX.o 9;have y10:W9.cell? ⟨w.heap.size+1,10,none⟩=some (.slice pr.a4 m.zc.length pr.c4):=zo HX.o 10;have y11:W9.cell? ⟨w.heap.size+1,11,none⟩=some (.slice pr.a5 m.ze.length pr.c5):=zo HX.o 11;have hz:=hz4.o;have hy:=hz5.o;refine bodyPost_ret (v:=.tuple #[.pointer (some ⟨SB,0,none⟩),stV m pr,.bool true,.bool true]) (by simp [results,results135,go_sem,stV,y0,y1,y2,y3,y4,y5,y6,y7,y8,y9,y10,y11]) rfl ⟨HS.o.bel HB7.o.bel (by omega),pr,.inl ⟨HR.o,SB,rfl,?_,?_⟩⟩
   . exact (HI7.o.six HS.o (by omega) (zfq HZ7.o) (zdL HZ7.o)).low (by omega)
   . exact ((HMR.o.zf HG7.o).kept fun _=>HS.o.kept hy).any
 . have HB5:=hid (HB4.o.zf g5)
   have HZ5:=hid (zu HZ4.o g5);have HR:=hid hr;have hz4:Hid (w.heap.size+1<w4.heap.size):=hid (HZ4.o.lt (w.heap.size+1) rfl).2;clear g5 HB4 HZ4 x0 x1 x2 x3 x4 x5 NW hr;obtain ⟨x0,x1,x2,x3,x4,x5,_⟩:=HB5.o.box;go_wp2_with fail;(with_reducible refine (RF.o _ HB5.o).mono ?_);rintro e w6 ⟨pr,rfl,hmr,g6⟩;have HB6:=hid (HB5.o.zf g6);have HZ6:=hid (zu HZ5.o g6);have OFx:=hid (OF.o pr w6);clear g6 hmr HB5 HZ5 x0 x1 x2 x3 x4 x5 RF OF;unfold mdV;unfold stV at OFx;go_wp2_with fail;(with_reducible refine (OFx.o).mono ?_);rintro e w7 ⟨rfl,g7⟩;have HB7:=hid (HB6.o.zf g7);have HZ7:=hid (zu HZ6.o g7);clear g7 HB6 HZ6 OFx;have z0:w7.cell? ⟨w.heap.size+1,0,none⟩=some (.string ⟨#[]⟩):=zo HZ7.o 0;have f0:=HZ7.o.frozenAt 0;have z1:w7.cell? ⟨w.heap.size+1,1,none⟩=some (.slice none 0 0):=zo HZ7.o 1;have f1:=HZ7.o.frozenAt 1;have z2:w7.cell? ⟨w.heap.size+1,2,none⟩=some (.slice none 0 0):=zo HZ7.o 2;have f2:=HZ7.o.frozenAt 2;have z3:w7.cell? ⟨w.heap.size+1,3,none⟩=some (.slice none 0 0):=zo HZ7.o 3;have f3:=HZ7.o.frozenAt 3;have z4:w7.cell? ⟨w.heap.size+1,4,none⟩=some (.slice none 0 0):=zo HZ7.o 4;have f4:=HZ7.o.frozenAt 4;have z5:w7.cell? ⟨w.heap.size+1,5,none⟩=some (.slice none 0 0):=zo HZ7.o 5;have f5:=HZ7.o.frozenAt 5;have z6:w7.cell? ⟨w.heap.size+1,6,none⟩=some (.string ⟨#[]⟩):=zo HZ7.o 6;have f6:=HZ7.o.frozenAt 6;have z7:w7.cell? ⟨w.heap.size+1,7,none⟩=some (.slice none 0 0):=zo HZ7.o 7;have f7:=HZ7.o.frozenAt 7;have z8:w7.cell? ⟨w.heap.size+1,8,none⟩=some (.slice none 0 0):=zo HZ7.o 8;have f8:=HZ7.o.frozenAt 8;have z9:w7.cell? ⟨w.heap.size+1,9,none⟩=some (.slice none 0 0):=zo HZ7.o 9;have f9:=HZ7.o.frozenAt 9;have z10:w7.cell? ⟨w.heap.size+1,10,none⟩=some (.slice none 0 0):=zo HZ7.o 10;have f10:=HZ7.o.frozenAt 10;have z11:w7.cell? ⟨w.heap.size+1,11,none⟩=some (.slice none 0 0):=zo HZ7.o 11;have f11:=HZ7.o.frozenAt 11;go_wp2_with fail;clear z0 f0 z1 f1 z2 f2 z3 f3 z4 f4 z5 f5 z6 f6 z7 f7 z8 f8 z9 f9 z10 f10 z11 f11;have HT0:=twelve (m:=m) (p:=pr) HZ7.o rfl;generalize ((((((((((((w7.setCell ⟨w.heap.size+1,0,none⟩ (.string m.nm)).setCell ⟨w.heap.size+1,1,none⟩ (.slice pr.a1 m.vars.length pr.c1)).setCell ⟨w.heap.size+1,2,none⟩ (.slice pr.a2 m.za.length pr.c2)).setCell ⟨w.heap.size+1,3,none⟩ (.slice pr.a3 m.zb.length pr.c3)).setCell ⟨w.heap.size+1,4,none⟩ (.slice pr.a4 m.zc.length pr.c4)).setCell ⟨w.heap.size+1,5,none⟩ (.slice pr.a5 m.ze.length pr.c5)).setCell ⟨w.heap.size+1,6,none⟩ (.string m.nm)).setCell ⟨w.heap.size+1,7,none⟩ (.slice pr.a1 m.vars.length pr.c1)).setCell ⟨w.heap.size+1,8,none⟩ (.slice pr.a2 m.za.length pr.c2)).setCell ⟨w.heap.size+1,9,none⟩ (.slice pr.a3 m.zb.length pr.c3)).setCell ⟨w.heap.size+1,10,none⟩ (.slice pr.a4 m.zc.length pr.c4)).setCell ⟨w.heap.size+1,11,none⟩ (.slice pr.a5 m.ze.length pr.c5))=W9 at *;have HS:=hid HT0.1;have HX:=hid HT0.2;clear HT0;have y0:W9.cell? ⟨w.heap.size+1,0,none⟩=some (.string m.nm):=zo HX.o 0;have y1:W9.cell? ⟨w.heap.size+1,1,none⟩=some (.slice pr.a1 m.vars.length pr.c1):=zo HX.o 1;have y2:W9.cell? ⟨w.heap.size+1,2,none⟩=some (.slice pr.a2 m.za.length pr.c2):=zo HX.o 2;have y3:W9.cell? ⟨w.heap.size+1,3,none⟩=some (.slice pr.a3 m.zb.length pr.c3):=zo HX.o 3;have y4:W9.cell? ⟨w.heap.size+1,4,none⟩=some (.slice pr.a4 m.zc.length pr.c4):=zo HX.o 4;have y5:W9.cell? ⟨w.heap.size+1,5,none⟩=some (.slice pr.a5 m.ze.length pr.c5):=zo HX.o 5;have y6:W9.cell? ⟨w.heap.size+1,6,none⟩=some (.string m.nm):=zo HX.o 6;have y7:W9.cell? ⟨w.heap.size+1,7,none⟩=some (.slice pr.a1 m.vars.length pr.c1):=zo HX.o 7;have y8:W9.cell? ⟨w.heap.size+1,8,none⟩=some (.slice pr.a2 m.za.length pr.c2):=zo HX.o 8;have y9:W9.cell? ⟨w.heap.size+1,9,none⟩=some (.slice pr.a3 m.zb.length pr.c3):=zo HX.o 9;have y10:W9.cell? ⟨w.heap.size+1,10,none⟩=some (.slice pr.a4 m.zc.length pr.c4):=zo HX.o 10;have y11:W9.cell? ⟨w.heap.size+1,11,none⟩=some (.slice pr.a5 m.ze.length pr.c5):=zo HX.o 11;have hn:¬ (riM m).2.2=0:=HR.o;refine bodyPost_ret (v:=.tuple #[.pointer none,stV m pr,.bool false,.bool true]) (by simp [results,results135,go_sem,stV,y0,y1,y2,y3,y4,y5,y6,y7,y8,y9,y10,y11,hn]) rfl ⟨HS.o.bel HB7.o.bel (by omega),pr,.inr ⟨HR.o,rfl⟩⟩
end Go.Proofs
