/- Walks. -/
import Derived.Test.YtiimoclbmaggjaaGreatDoorZOdAD
import Derived.Test.YtiimoclbmaggjaaGreatDoorZDpAB
import Derived.Test.YtiimoclbmaggjaaGreatDoorZSgL
import Derived.Test.YtiimoclbmaggjaaGreatDoorZSgM
import Derived.Test.YtiimoclbmaggjaaGreatDoorZSgZ
namespace Go.Proofs
open Go.RowKit Go.Lx Go.Md Go.Shelf Go.BigFrame Go.Rgi
open Lib(hid)
open World(alloc_heap_new size_setCell size_alloc cell?_setCell_other cell?_setCell_same frozen?_setCell)
open Below(heap_setCell heap_alloc)
open Go.Proofs.Tryz
set_option maxRecDepth 100000
set_option maxHeartbeats 0
set_option linter.defProp false
set_option linter.unusedVariables false
def nR (n:Nat):n<=n:=n.le_refl
def Yes (w:World) (e:Ending) (w':World):Prop:=e=.returned (.bool true)/\Bl w w'
def zx {w a b:World} (h:Bl w a) (g:Bl a b):Bl w b:=h.trans (g.mono h.size)
def yi {B:Nat} {w a:World} (h:Below B w a) (hb:B<=w.heap.size) (o1:Obj):Below B w (a.alloc o1):=h.alloc (Nat.le_trans hb h.size) _
def zdr {B:Nat} {w a:World} (h:Below B w a) (hb:B<=w.heap.size) (o1 o2:Obj):Below B w ((a.alloc o1).alloc o2):=yi (yi h hb o1) hb o2
def B6 {B:Nat} {w a:World} (h:Below B w a) (hb:B<=w.heap.size) (o1 o2 o3:Obj):Below B w (((a.alloc o1).alloc o2).alloc o3):=yi (zdr h hb o1 o2) hb o3
def kj {w:World} {b n:Nat} {cs:Array Value} {l:List Int} (h:w.heap[b]? = some (.cells cs 3 (0,0))) (hc:cs.toList=nums l) (hn:l.length=n):RowIn w (.slice (some ⟨b,0,none⟩) n n) l:=by
 subst hn;refine .inr ⟨b,0,l.length,rfl,nR _,(Array.getElem?_eq_some_iff.1 h).1,fun j u hu=>?_⟩;have:(⟨b,0,none⟩:Addr).add j=⟨b,0+j,none⟩:=by simp [Addr.add];exact fun h=>h.symm
 rw [this,Nat.zero_add,zh h j,<- Array.getElem?_toList,hc];exact hu
def jR {w:World} {n:Nat} {cs:Array Value} {l:List Int} (hc:cs.toList=nums l) (hn:l.length=n):RowIn (w.alloc (.cells cs 3)) (.slice (some ⟨w.heap.size,0,none⟩) n n) l:=kj (alloc_heap_new w _) hc hn
def RowIn.drew {w:World} {v:Value} {l:List Int} (h:RowIn w v l):RowIn w.drew v l:=h.zf (Below.refl _ _).drew
def zen (w:World) (x:Int):RowIn (w.alloc (.cells #[.int .i64 x] 3)) (.slice (some ⟨w.heap.size,0,none⟩) 1 1) [x]:=jR (n:=1) rfl rfl
def B0 (w:World) (x y z:Int):RowIn (w.alloc (.cells #[.int .i64 x,.int .i64 y,.int .i64 z] 3)) (.slice (some ⟨w.heap.size,0,none⟩) 3 3) [x,y,z]:=jR (n:=3) rfl rfl
structure Dk (m:MdlD) (p:Ph) (H:Nat) (w:World):Prop where
 mod:Mod anyM w m p
 box:Box w H (.string m.nm) (.slice p.a1 m.vars.length p.c1) (.slice p.a2 m.za.length p.c2) (.slice p.a3 m.zb.length p.c3) (.slice p.a4 m.zc.length p.c4) (.slice p.a5 m.ze.length p.c5)
 lt:H<w.heap.size
def Dk.zf {m:MdlD} {p:Ph} {H:Nat} {w w':World} (h:Dk m p H w) (g:Bl w w'):Dk m p H w':=⟨h.mod.zf g,h.box.zf g h.lt,Nat.lt_of_lt_of_le h.lt g.size⟩
def Dk.made {m:MdlD} {p:Ph} {w:World} (h:Mod anyM w m p):Dk m p w.heap.size (w.alloc (.cells #[.string m.nm,.slice p.a1 m.vars.length p.c1,.slice p.a2 m.za.length p.c2,.slice p.a3 m.zb.length p.c3,.slice p.a4 m.zc.length p.c4,.slice p.a5 m.ze.length p.c5] 28)):=⟨h.zf (zg w _),box6 w m p,by simp⟩
structure Kb (H r1 r2:Nat) (la ll:List Int) (w:World):Prop where
 d0:w.cell? ⟨H,0,none⟩=some (.slice (some ⟨r1,0,none⟩) 3 3)
 d1:w.cell? ⟨H,1,none⟩=some (.slice (some ⟨r2,0,none⟩) 3 3)
 R1:RowIn w (.slice (some ⟨r1,0,none⟩) 3 3) la
 R2:RowIn w (.slice (some ⟨r2,0,none⟩) 3 3) ll
 lt:H<w.heap.size
 free:∀ j,w.frozen? ⟨H,j,none⟩=false
def Kb.zf {H r1 r2:Nat} {la ll:List Int} {w w':World} (h:Kb H r1 r2 la ll w) (g:Bl w w'):Kb H r1 r2 la ll w' :=
 ⟨(g.cell (p:=⟨H,0,none⟩) h.lt).trans h.d0,(g.cell (p:=⟨H,1,none⟩) h.lt).trans h.d1,h.R1.zf g,h.R2.zf g,Nat.lt_of_lt_of_le h.lt g.size,fun j=>(g.frozen (p:=⟨H,j,none⟩) h.lt).trans (h.free j)⟩
def Kb.made (w:World) (x y z u v s:Int):Kb (w.heap.size+1+1) w.heap.size (w.heap.size+1) [x,y,z] [u,v,s] (((w.alloc (.cells #[.int .i64 x,.int .i64 y,.int .i64 z] 3)).alloc (.cells #[.int .i64 u,.int .i64 v,.int .i64 s] 3)).alloc (.cells #[.slice (some ⟨w.heap.size,0,none⟩) 3 3,.slice (some ⟨w.heap.size+1,0,none⟩) 3 3] 74)):=by
 have e2:=alloc_heap_new ((w.alloc (.cells #[.int .i64 x,.int .i64 y,.int .i64 z] 3)).alloc (.cells #[.int .i64 u,.int .i64 v,.int .i64 s] 3)) (.cells #[.slice (some ⟨w.heap.size,0,none⟩) 3 3,.slice (some ⟨w.heap.size+1,0,none⟩) 3 3] 74);rw [size_alloc,size_alloc] at e2;have e1:=alloc_heap_new (w.alloc (.cells #[.int .i64 x,.int .i64 y,.int .i64 z] 3)) (.cells #[.int .i64 u,.int .i64 v,.int .i64 s] 3);rw [size_alloc] at e1;have e0:=alloc_heap_new w (.cells #[.int .i64 x,.int .i64 y,.int .i64 z] 3);have k1:=(heap_alloc ((w.alloc (.cells #[.int .i64 x,.int .i64 y,.int .i64 z] 3)).alloc (.cells #[.int .i64 u,.int .i64 v,.int .i64 s] 3)) (.cells #[.slice (some ⟨w.heap.size,0,none⟩) 3 3,.slice (some ⟨w.heap.size+1,0,none⟩) 3 3] 74) (w.heap.size+1) (by simp)).trans e1;have k0:=(heap_alloc ((w.alloc (.cells #[.int .i64 x,.int .i64 y,.int .i64 z] 3)).alloc (.cells #[.int .i64 u,.int .i64 v,.int .i64 s] 3)) (.cells #[.slice (some ⟨w.heap.size,0,none⟩) 3 3,.slice (some ⟨w.heap.size+1,0,none⟩) 3 3] 74) w.heap.size (by simp;omega)).trans ((heap_alloc _ (.cells #[.int .i64 u,.int .i64 v,.int .i64 s] 3) w.heap.size (by simp)).trans e0);exact ⟨zh e2 0,zh e2 1,kj k0 rfl rfl,kj k1 rfl rfl,by simp,zv e2⟩
def Kb.last {H r1 r2:Nat} {la ll:List Int} {w:World} (h:Kb H r1 r2 la ll w) (hr:r1<H) (x y z:Int):Kb H r1 w.heap.size la [x,y,z] ((w.alloc (.cells #[.int .i64 x,.int .i64 y,.int .i64 z] 3)).setCell ⟨H,1,none⟩ (.slice (some ⟨w.heap.size,0,none⟩) 3 3)):=by
 have hl:=h.lt;have e0:=alloc_heap_new w (.cells #[.int .i64 x,.int .i64 y,.int .i64 z] 3);have g:=h.zf (zg w (.cells #[.int .i64 x,.int .i64 y,.int .i64 z] 3));have ho:∀ b,b≠H->∀ j,((w.alloc (.cells #[.int .i64 x,.int .i64 y,.int .i64 z] 3)).setCell ⟨H,1,none⟩ (.slice (some ⟨w.heap.size,0,none⟩) 3 3)).cell? ⟨b,j,none⟩=(w.alloc (.cells #[.int .i64 x,.int .i64 y,.int .i64 z] 3)).cell? ⟨b,j,none⟩:=fun b hb j=>World.cell?_of_block (a:=⟨b,j,none⟩) (heap_setCell _ _ _ _ hb);have k0:=(heap_setCell (w.alloc (.cells #[.int .i64 x,.int .i64 y,.int .i64 z] 3)) ⟨H,1,none⟩ (.slice (some ⟨w.heap.size,0,none⟩) 3 3) w.heap.size (by simp only;omega)).trans e0;refine ⟨?_,cell?_setCell_same _ _ _ g.d1,?_,kj k0 rfl rfl,by rw [size_setCell];exact g.lt,fun j=>by rw [frozen?_setCell];exact g.free j⟩
 . exact (cell?_setCell_other _ _ _ _ (by simp)).trans g.d0
 . rcases g.R1 with h | ⟨b,off,c,e,hc,hb,G4⟩
   . exact .inl h
   . simp only [Value.slice.injEq,Option.some.injEq,Addr.mk.injEq,and_true] at e
     obtain ⟨⟨rfl,rfl⟩,e2,rfl⟩:=e;refine .inr ⟨r1,0,3,by rw [<- e2],by omega,by rw [size_setCell];exact hb,fun j u hu=>?_⟩;have:=G4 j u hu;have ha:(⟨r1,0,none⟩:Addr).add j=⟨r1,0+j,none⟩:=by simp [Addr.add];exact fun h=>h.symm
     rw [ha] at this |-;exact (ho r1 (by omega) _).trans this
def A5 (w:World):Calls prog 13 #[] w (AnyP w):=(zcC w).mono fun e w' ⟨p,he,hm,hb⟩=>⟨doorM,p,he,zbW,hm,hb⟩
def B2 (n:Nat) (i:Int) (hi:(n:Int)=i) (hn:n<=1000) (w:World):Calls prog 14 #[.int .i64 i] w (MadeP (deepM n) w):=by
 subst hi;exact deep_any n hn w
def A4 (n:Nat) (i:Int) (hi:(n:Int)=i) (hn:n<=1000) (w:World):Calls prog 14 #[.int .i64 i] w (AnyP w):=(B2 n i hi hn w).mono fun e w' ⟨p,he,hm,hb⟩=>⟨deepM n,p,he,deep_ok hn,hm,hb⟩
def A6 (m:MdlD) (p:Ph) (la ll:List Int) (v1 v2:Value) (v z:Int) (w:World) (h:Mod anyM w m p) (hm:MdlOk m) (hT:Tab w) (r1:RowIn w v1 la) (r2:RowIn w v2 ll) (b1:la.length<=1000) (b2:ll.length<=1000) :
   Calls prog 56 #[mdV m p,.agg #[v1,v2],.int .i64 v,.int .i64 z] w (Yes w):=by
 obtain ⟨a1,c1,rfl,_⟩:=r1.len;obtain ⟨a2,c2,rfl,_⟩:=r2.len;exact zcl m p la ll a1 a2 c1 c2 v z w h hm hT r1 r2 (by omega) (by omega)
def B7 (la ll:List Int) (v1 v2:Value) (v:Int) (w:World) (hT:Tab w) (r1:RowIn w v1 la) (r2:RowIn w v2 ll) (b1:la.length<=1000) (b2:ll.length<=1000) :
   Calls prog 57 #[.agg #[v1,v2],.int .i64 v] w (Yes w):=by
 obtain ⟨a1,c1,rfl,_⟩:=r1.len;obtain ⟨a2,c2,rfl,_⟩:=r2.len;exact zcn la ll a1 a2 c1 c2 v w hT (by omega) (by omega)
def A7 (m:MdlD) (p:Ph) (l:List Int) (hl:l.length<=1000) (lv:Value) (r:Int) (w:World) (h:Mod anyM w m p) (hm:MdlOk m) (hT:Tab w) (hr:RowIn w lv l) :
   Calls prog 58 #[mdV m p,lv,.int .i64 r] w (Yes w):=za6 m p l lv r w h hm hT hr (by omega)
def A8 (m:MdlD) (p:Ph) (l:List Int) (hl:l.length<=1000) (lv:Value) (r e:Int) (w:World) (h:Mod anyM w m p) (hm:MdlOk m) (hT:Tab w) (hr:RowIn w lv l) :
   Calls prog 59 #[mdV m p,lv,.int .i64 r,.int .i64 e] w (Yes w):=zbe m p l lv r e w h hm hT hr (by omega)
def zeo (w:World) (x0 x1 x2 x3:Int):RowIn (w.alloc (.cells #[.int .i64 x0,.int .i64 x1,.int .i64 x2,.int .i64 x3] 3)) (.slice (some ⟨w.heap.size,0,none⟩) 4 4) [x0,x1,x2,x3]:=jR (n:=4) rfl rfl
def zep (w:World) (x0 x1 x2 x3 x4 x5:Int):RowIn (w.alloc (.cells #[.int .i64 x0,.int .i64 x1,.int .i64 x2,.int .i64 x3,.int .i64 x4,.int .i64 x5] 3)) (.slice (some ⟨w.heap.size,0,none⟩) 6 6) [x0,x1,x2,x3,x4,x5]:=jR (n:=6) rfl rfl
def B1 (w:World) (x0 x1 x2 x3 x4 x5 x6 x7:Int):RowIn (w.alloc (.cells #[.int .i64 x0,.int .i64 x1,.int .i64 x2,.int .i64 x3,.int .i64 x4,.int .i64 x5,.int .i64 x6,.int .i64 x7] 3)) (.slice (some ⟨w.heap.size,0,none⟩) 8 8) [x0,x1,x2,x3,x4,x5,x6,x7]:=jR (n:=8) rfl rfl
def kU (w:World) (H j:Nat) (v:Value) (o:Obj) (h:H<w.heap.size):(w.setCell ⟨H,j,none⟩ v).alloc o=(w.alloc o).setCell ⟨H,j,none⟩ v:=(World.setCell_alloc_past _ _ _ _ h).symm
def Kb.put {H r1 r2:Nat} {la ll:List Int} {w:World} (h:Kb H r1 r2 la ll w) (x y z u v s:Int) :
   Kb H w.heap.size (w.heap.size+1) [x,y,z] [u,v,s] (((((w.alloc (.cells #[.int .i64 x,.int .i64 y,.int .i64 z] 3)).alloc (.cells #[.int .i64 u,.int .i64 v,.int .i64 s] 3)).setCell ⟨H,0,none⟩ (.slice (some ⟨w.heap.size,0,none⟩) 3 3)).setCell ⟨H,1,none⟩ (.slice (some ⟨w.heap.size+1,0,none⟩) 3 3))):=by
 have hl:=h.lt;have g:=h.zf (zdr (Below.refl _ w) (nR _) (.cells #[.int .i64 x,.int .i64 y,.int .i64 z] 3) (.cells #[.int .i64 u,.int .i64 v,.int .i64 s] 3));have e0:=(heap_alloc _ (.cells #[.int .i64 u,.int .i64 v,.int .i64 s] 3) w.heap.size (by simp)).trans (alloc_heap_new w (.cells #[.int .i64 x,.int .i64 y,.int .i64 z] 3));have e1:=alloc_heap_new (w.alloc (.cells #[.int .i64 x,.int .i64 y,.int .i64 z] 3)) (.cells #[.int .i64 u,.int .i64 v,.int .i64 s] 3);rw [size_alloc] at e1;have s0:=(heap_setCell _ ⟨H,1,none⟩ (.slice (some ⟨w.heap.size+1,0,none⟩) 3 3) w.heap.size (by simp only;omega)).trans ((heap_setCell _ ⟨H,0,none⟩ (.slice (some ⟨w.heap.size,0,none⟩) 3 3) w.heap.size (by simp only;omega)).trans e0);have s1:=(heap_setCell _ ⟨H,1,none⟩ (.slice (some ⟨w.heap.size+1,0,none⟩) 3 3) (w.heap.size+1) (by simp only;omega)).trans ((heap_setCell _ ⟨H,0,none⟩ (.slice (some ⟨w.heap.size,0,none⟩) 3 3) (w.heap.size+1) (by simp only;omega)).trans e1);refine ⟨?_,?_,kj s0 rfl rfl,kj s1 rfl rfl,by rw [size_setCell,size_setCell];exact g.lt,fun j=>by rw [frozen?_setCell,frozen?_setCell];exact g.free j⟩
 . exact (cell?_setCell_other _ _ _ _ (by simp)).trans (cell?_setCell_same _ _ _ g.d0)
 . exact cell?_setCell_same _ _ _ ((cell?_setCell_other _ _ _ _ (by simp)).trans g.d1)
theorem zaV (w:World) (hT:Tab w):Calls prog 8 #[] w (Yes w):=by
 have TB:=hid (fun wx (g:Bl w wx)=>hT.next g);have WK:=hid (fun wx (g:Bl w wx)=>works20 wx (TB.o wx g));have OD:=hid (fun (i:Int) wx=>odd_any i wx);have DP:=hid (fun wx=>A4 20 20 rfl (by omega) wx);have DR:=hid (A5 w);unfold AnyP mdV at DR;clear hT;go_enter func8,ntmps8;go_wp2_with fail;(with_reducible refine DR.o.mono ?_);rintro e w1 ⟨m,p,rfl,hm,B9,g1⟩;have HM:=hid hm;have HD:=hid (Dk.made B9);have HW:=hid (zx g1 (zg w1 (.cells #[.string m.nm,.slice p.a1 m.vars.length p.c1,.slice p.a2 m.za.length p.c2,.slice p.a3 m.zb.length p.c3,.slice p.a4 m.zc.length p.c4,.slice p.a5 m.ze.length p.c5] 28)));obtain ⟨H,hH⟩:=ex2 w1.heap.size;go_upto_region 2 with fail;rw [hH] at HD
 try rw [hH]
 clear hm B9 g1 hH DR;generalize w1.alloc (.cells #[.string m.nm,.slice p.a1 m.vars.length p.c1,.slice p.a2 m.za.length p.c2,.slice p.a3 m.zb.length p.c3,.slice p.a4 m.zc.length p.c4,.slice p.a5 m.ze.length p.c5] 28)=W1 at *;have DL:=hid (fun l hl lv r wx (g:Bl W1 wx) hr=>A7 m p l hl lv r wx (HD.o.zf g).mod HM.o (TB.o wx (zx HW.o g)) hr);have DE:=hid (fun l hl lv r e wx (g:Bl W1 wx) hr=>A8 m p l hl lv r e wx (HD.o.zf g).mod HM.o (TB.o wx (zx HW.o g)) hr);have DS:=hid (fun la ll v1 v2 v z wx (g:Bl W1 wx) r1 r2 b1 b2=>A6 m p la ll v1 v2 v z wx (HD.o.zf g).mod HM.o (TB.o wx (zx HW.o g)) r1 r2 b1 b2);unfold mdV at DL DE DS;go_wp2_with fail
 go_loopw [2] (fun i wr=>∃ k:Int,0<=k/\k<=40/\i=.int .i64 k/\Bl W1 wr) (fun i _=>(40 - intOf i).toNat)
 case atStart=>exact ⟨0,by omega,by omega,rfl,Below.refl _ _⟩
 case round =>
  obtain ⟨wa,rfl⟩:=ex1 wr;obtain ⟨k,F7,hk,rfl,E6⟩:=hrel;have HA:=hid E6;clear E6
  by_cases hlk:k<40
  . go_upto_region 6 with fail
    refine yk (S:=fun W=>∃ x y z u v s,Bl W1 W/\Kb (wa.heap.size+1+1) wa.heap.size (wa.heap.size+1) [x,y,z] [u,v,s] W) ⟨_,_,_,_,_,_,B6 HA.o (nR _) _ _ _,Kb.made wa _ _ _ _ _ _⟩ ?_;rintro W3 ⟨x,y,z,u,v,s,E3,E4⟩;have D4:=hid E3;have A2:=hid E4;clear E3 E4;obtain ⟨H5,D6⟩:=ex2 (wa.heap.size+1+1);rw [D6] at A2;rw [D6];obtain ⟨R5,C7⟩:=ex2 (wa.heap.size+1);rw [C7] at A2
    try rw [C7]
    obtain ⟨R4,C8⟩:=ex2 wa.heap.size;have E5:W1.heap.size<=H5:=by have:=HA.o.size;omega
    rw [C8] at A2
    try rw [C8]
    clear D6 C7 C8;have f0:W3.frozen? ⟨H5,0,none⟩=false:=A2.o.free 0;have f1:W3.frozen? ⟨H5,1,none⟩=false:=A2.o.free 1;have d0:=A2.o.d0;have d1:=A2.o.d1;have C4:H5<W3.heap.size:=A2.o.lt
    have K1:Hid (∀ x y z u v s:Int,Bl W1 ((((W3.setCell ⟨H5,0,none⟩ (.slice (some ⟨W3.heap.size,0,none⟩) 3 3)).setCell ⟨H5,1,none⟩ (.slice (some ⟨W3.heap.size+1,0,none⟩) 3 3)).alloc (.cells #[.int .i64 x,.int .i64 y,.int .i64 z] 3)).alloc (.cells #[.int .i64 u,.int .i64 v,.int .i64 s] 3))/\Kb H5 W3.heap.size (W3.heap.size+1) [x,y,z] [u,v,s] ((((W3.setCell ⟨H5,0,none⟩ (.slice (some ⟨W3.heap.size,0,none⟩) 3 3)).setCell ⟨H5,1,none⟩ (.slice (some ⟨W3.heap.size+1,0,none⟩) 3 3)).alloc (.cells #[.int .i64 x,.int .i64 y,.int .i64 z] 3)).alloc (.cells #[.int .i64 u,.int .i64 v,.int .i64 s] 3))):=hid fun x y z u v s=>by
      rw [kU (W3.setCell ⟨H5,0,none⟩ (.slice (some ⟨W3.heap.size,0,none⟩) 3 3)) H5 1 _ _ (by rw [size_setCell];exact C4),kU W3 H5 0 _ _ C4,kU ((W3.alloc (.cells #[.int .i64 x,.int .i64 y,.int .i64 z] 3)).setCell ⟨H5,0,none⟩ (.slice (some ⟨W3.heap.size,0,none⟩) 3 3)) H5 1 _ _ (by rw [size_setCell,size_alloc];omega),kU (W3.alloc (.cells #[.int .i64 x,.int .i64 y,.int .i64 z] 3)) H5 0 _ _ (by rw [size_alloc];omega)];exact ⟨((zdr D4.o (nR _) _ _).setCell (p:=⟨H5,0,none⟩) E5 _).setCell (p:=⟨H5,1,none⟩) E5 _,A2.o.put _ _ _ _ _ _⟩
    cases hm3:(k % 3 == 0)
    all_goals
      go_upto_region 8 with fail
    refine yk (S:=fun W=>∃ r1 r2 la ll,la.length<=1000/\ll.length<=1000/\Bl W1 W/\Kb H5 r1 r2 la ll W) ⟨_,_,_,_,by simp,by simp,D4.o,A2.o⟩ ?_;rotate_left;refine yk (S:=fun W=>∃ r1 r2 la ll,la.length<=1000/\ll.length<=1000/\Bl W1 W/\Kb H5 r1 r2 la ll W) ⟨_,_,_,_,by simp,by simp,K1.o _ _ _ _ _ _⟩ ?_;rotate_left
    all_goals
      rintro W5 ⟨R4,R5,la,ll,F0,E9,B8,F2⟩;have C1:=hid B8;have HK:=hid F2;have L1:=hid F0;have L2:=hid E9;clear F0 E9 B8 F2 f0 f1 d0 d1 C4 A2 D4 K1
      have HS:Hid (∀ W',Bl W5 W'->(W'.cell? ⟨H,0,none⟩=some (.string m.nm)/\W'.cell? ⟨H,1,none⟩=some (.slice p.a1 m.vars.length p.c1)/\W'.cell? ⟨H,2,none⟩=some (.slice p.a2 m.za.length p.c2)/\W'.cell? ⟨H,3,none⟩=some (.slice p.a3 m.zb.length p.c3)/\W'.cell? ⟨H,4,none⟩=some (.slice p.a4 m.zc.length p.c4)/\W'.cell? ⟨H,5,none⟩=some (.slice p.a5 m.ze.length p.c5))/\W'.cell? ⟨H5,0,none⟩=some (.slice (some ⟨R4,0,none⟩) 3 3)/\W'.cell? ⟨H5,1,none⟩=some (.slice (some ⟨R5,0,none⟩) 3 3)):=hid fun W' g=>by
        obtain ⟨x0,x1,x2,x3,x4,x5,_⟩:=(HD.o.zf (zx C1.o g)).box;exact ⟨⟨x0,x1,x2,x3,x4,x5⟩,(HK.o.zf g).d0,(HK.o.zf g).d1⟩
      have DT:=hid (fun v z wx (g:Bl W5 wx)=>DS.o la ll _ _ v z wx (zx C1.o g) (HK.o.zf g).R1 (HK.o.zf g).R2 L1.o L2.o);have OT:=hid (fun m5 p5 v z wx (ho:MdlOk m5) (h:Mod anyM wx m5 p5) (g:Bl W5 wx)=>A6 m5 p5 la ll _ _ v z wx h ho (TB.o wx (zx HW.o (zx C1.o g))) (HK.o.zf g).R1 (HK.o.zf g).R2 L1.o L2.o);have NN:=hid (fun v wx (g:Bl W5 wx)=>B7 la ll _ _ v wx (TB.o wx (zx HW.o (zx C1.o g))) (HK.o.zf g).R1 (HK.o.zf g).R2 L1.o L2.o);have B3:Hid (∀ wx,Bl W5 wx->Bl W1 wx):=hid fun wx g=>zx C1.o g;go_wp2_with fail
      go_loopw [4] (fun i wr=>∃ v:Int,-2<=v/\v<=13/\i=.int .i64 v/\Bl W5 wr) (fun i _=>(13 - intOf i).toNat)
      case atStart=>exact ⟨-2,by omega,by omega,rfl,Below.refl _ _⟩
      case round =>
       obtain ⟨wv,rfl⟩:=ex1 wr;obtain ⟨v,I3,hv,rfl,D8⟩:=hrel;have HV:=hid D8;clear D8
       by_cases hlv:v<13
       . have A1:Bl W5 wv:=HV.o
         have A0:=B3;go_wp2_with fail
         by_cases hm4:k % 4=0
         . have t4:(k.tmod 4 == 0)=true:=by rw [Int.tmod_eq_emod_of_nonneg F7];simp [hm4]
           clear hm3 hm4;refine wp_region_any (by kernel_rfl) ?_;change wpAny _ _ _ _ _ _ _ (World.drew _);refine hld HS.o A1.drew (fun A3=>?_);refine tk 0 rfl ?_;refine tk 1 rfl ?_;refine tk 2 rfl ?_;refine tk 3 rfl ?_;refine tk 4 rfl ?_;refine tk 5 rfl ?_;refine rd1 6 (fun K hK=>?_);(go_simp;(with_reducible refine (DT.o _ _ _ A1.drew).mono ?_);rintro e w4 ⟨rfl,D5⟩;have C5:=zx A1.drew D5;go_wp2_with fail);refine nx hK ?_ (fun C9=>?_);(first | exact HS.o _ (by assumption) | exact HS.o _ A1.drew);clear hK K A3;refine tk 7 rfl ?_;refine tk 8 rfl ?_;refine tk 9 rfl ?_;refine tk 10 rfl ?_;refine tk 11 rfl ?_;refine tk 12 rfl ?_;refine tk 13 rfl ?_;refine tk 14 rfl ?_;refine tk 15 rfl ?_;refine tk 16 rfl ?_;refine tk 18 rfl ?_;refine tk 19 rfl ?_;refine tk 20 rfl ?_;refine rd1 17 (fun K hK=>?_);(go_simp;(with_reducible refine (OD.o _ _).mono ?_);rintro e w5 ⟨m5,p5,rfl,F1,E8,C4⟩;have F5:=zx C5 C4;have F3:=hid F1;have F8:=hid E8;clear F1 E8;go_wp2_with fail);refine nx hK ?_ (fun E2=>?_);(first | exact HS.o _ (by assumption) | exact HS.o _ A1.drew);clear hK K C9;refine rd1 21 (fun K hK=>?_);(go_simp;(with_reducible refine (OT.o m5 p5 _ _ _ F3.o F8.o F5).mono ?_);rintro e w6 ⟨rfl,G5⟩;have F6:=zx F5 G5;clear F3 F8;go_wp2_with fail);refine nx hK ?_ (fun G3=>?_);(first | exact HS.o _ (by assumption) | exact HS.o _ A1.drew);clear hK K E2;refine tk 22 rfl ?_;refine tk 23 rfl ?_;refine tk 24 rfl ?_;refine tk 25 rfl ?_;refine tk 26 rfl ?_;refine tk 27 rfl ?_;refine rd1 28 (fun K hK=>?_);(go_simp;(with_reducible refine (NN.o _ _ F6).mono ?_);rintro e w7 ⟨rfl,D2⟩;have D1:=zx F6 D2;go_wp2_with fail);refine nx hK ?_ (fun G8=>?_);(first | exact HS.o _ (by assumption) | exact HS.o _ A1.drew);clear hK K G3;refine tk 29 rfl ?_;refine tk 30 rfl ?_;refine dn ?_;rotate_left
           all_goals
             go_upto_region 13 with fail;refine yk (S:=fun W=>Bl W5 W) D1 ?_;intro W6 C0;have A9:=hid C0;clear C0;obtain ⟨x0,x1,x2,x3,x4,x5,_⟩:=(HD.o.zf (A0.o _ A9.o)).box;go_wp2_with fail;(with_reducible refine (DL.o [1,_,v,3,6,_] (by simp) _ _ _ (yi (A0.o _ A9.o) (nR _) _) (zep W6 _ _ _ _ _ _)).mono ?_);rintro e w7 ⟨rfl,g7⟩;have B4:=hid (zx (yi A9.o (nR _) _) g7);clear g7 x0 x1 x2 x3 x4 x5;obtain ⟨x0,x1,x2,x3,x4,x5,_⟩:=(HD.o.zf (A0.o _ B4.o)).box;go_wp2_with fail;(with_reducible refine (DE.o [1,_,6,v] (by simp) _ _ _ _ (yi (A0.o _ B4.o) (nR _) _) (zeo w7 _ _ _ _)).mono ?_);rintro e w8 ⟨rfl,g8⟩;have B5:=hid (zx (yi B4.o (nR _) _) g8);clear g8 x0 x1 x2 x3 x4 x5;obtain ⟨x0,x1,x2,x3,x4,x5,_⟩:=(HD.o.zf (A0.o _ B5.o)).box;go_wp2_with fail;(with_reducible refine (DE.o [_] (by simp) _ _ _ _ (yi (A0.o _ B5.o) (nR _) _) (zen w8 _)).mono ?_);rintro e w9 ⟨rfl,g9⟩;have C6:=hid (zx (yi B5.o (nR _) _) g9);clear g9 x0 x1 x2 x3 x4 x5;go_wp2_with fail;go_roundw
             case rel=>exact ⟨v+1,by omega,by omega,by go_num,C6.o⟩
             case measure=>simp [intOf] <;> omega
         . have t4:(k.tmod 4 == 0)=false:=by rw [Int.tmod_eq_emod_of_nonneg F7];simp [hm4]
           clear hm3 hm4;refine wp_region_any (by kernel_rfl) ?_;change wpAny _ _ _ _ _ _ _ (World.drew _);refine hld HS.o A1.drew (fun A3=>?_);refine tk 0 rfl ?_;refine tk 1 rfl ?_;refine tk 2 rfl ?_;refine tk 3 rfl ?_;refine tk 4 rfl ?_;refine tk 5 rfl ?_;refine rd1 6 (fun K hK=>?_);(go_simp;(with_reducible refine (DT.o _ _ _ A1.drew).mono ?_);rintro e w4 ⟨rfl,D5⟩;have C5:=zx A1.drew D5;go_wp2_with fail);refine nx hK ?_ (fun C9=>?_);(first | exact HS.o _ (by assumption) | exact HS.o _ A1.drew);clear hK K A3;refine tk 7 rfl ?_;refine tk 8 rfl ?_;refine tk 9 rfl ?_;refine tk 10 rfl ?_;refine tk 11 rfl ?_;refine tk 12 rfl ?_;refine tkP 13 rfl ?_;refine tkP 14 rfl ?_;refine tkP 15 rfl ?_;refine tkP 16 rfl ?_;refine tkP 17 rfl ?_;refine tkP 18 rfl ?_;refine tkP 19 rfl ?_;refine tkP 20 rfl ?_;refine tkP 21 rfl ?_;refine tkP 22 rfl ?_;refine tk 23 rfl ?_;refine tk 24 rfl ?_;refine tk 25 rfl ?_;refine tk 26 rfl ?_;refine tk 27 rfl ?_;refine rd1 28 (fun K hK=>?_);(go_simp;(with_reducible refine (NN.o _ _ C5).mono ?_);rintro e w7 ⟨rfl,D2⟩;have D1:=zx C5 D2;go_wp2_with fail);refine nx hK ?_ (fun E2=>?_);(first | exact HS.o _ (by assumption) | exact HS.o _ A1.drew);clear hK K C9;refine tk 29 rfl ?_;refine tk 30 rfl ?_;refine dn ?_;rotate_left
           all_goals
             go_upto_region 13 with fail;refine yk (S:=fun W=>Bl W5 W) D1 ?_;intro W6 C0;have A9:=hid C0;clear C0;obtain ⟨x0,x1,x2,x3,x4,x5,_⟩:=(HD.o.zf (A0.o _ A9.o)).box;go_wp2_with fail;(with_reducible refine (DL.o [1,_,v,3,6,_] (by simp) _ _ _ (yi (A0.o _ A9.o) (nR _) _) (zep W6 _ _ _ _ _ _)).mono ?_);rintro e w7 ⟨rfl,g7⟩;have B4:=hid (zx (yi A9.o (nR _) _) g7);clear g7 x0 x1 x2 x3 x4 x5;obtain ⟨x0,x1,x2,x3,x4,x5,_⟩:=(HD.o.zf (A0.o _ B4.o)).box;go_wp2_with fail;(with_reducible refine (DE.o [1,_,6,v] (by simp) _ _ _ _ (yi (A0.o _ B4.o) (nR _) _) (zeo w7 _ _ _ _)).mono ?_);rintro e w8 ⟨rfl,g8⟩;have B5:=hid (zx (yi B4.o (nR _) _) g8);clear g8 x0 x1 x2 x3 x4 x5;obtain ⟨x0,x1,x2,x3,x4,x5,_⟩:=(HD.o.zf (A0.o _ B5.o)).box;go_wp2_with fail;(with_reducible refine (DE.o [_] (by simp) _ _ _ _ (yi (A0.o _ B5.o) (nR _) _) (zen w8 _)).mono ?_);rintro e w9 ⟨rfl,g9⟩;have C6:=hid (zx (yi B5.o (nR _) _) g9);clear g9 x0 x1 x2 x3 x4 x5;go_wp2_with fail;go_roundw
             case rel=>exact ⟨v+1,by omega,by omega,by go_num,C6.o⟩
             case measure=>simp [intOf] <;> omega
       . have I1:13<=v:=by omega
         have C2:=B3.o wv HV.o;have A9:=hid C2;clear C2;go_wp2_with fail;(with_reducible refine (DP.o _).mono ?_);rintro e w7 ⟨m7,p7,rfl,D9,F4,g7⟩;have D3:=hid (zx A9.o g7);have L7:=hid (fun l hl lv r wx (g:Bl w7 wx) hr=>A7 m7 p7 l hl lv r wx (F4.zf g) D9 (TB.o wx (zx HW.o (zx D3.o g))) hr);clear D9 F4 g7;go_wp2_with fail;(with_reducible refine (L7.o [1,2,3,4,5,6,7,_] (by simp) _ _ _ (yi (Below.refl _ _) (nR _) _) (B1 w7 _ _ _ _ _ _ _ _)).mono ?_);rintro e w8 ⟨rfl,g8⟩;have G2:=hid (zx (yi D3.o (nR _) _) g8);clear g8 L7 D3;go_wp2_with fail;(with_reducible refine (DP.o _).mono ?_);rintro e w9 ⟨m9,p9,rfl,E0,E1,g9⟩;have D7:=hid (zx G2.o g9);have L9:=hid (fun l hl lv r e wx (g:Bl w9 wx) hr=>A8 m9 p9 l hl lv r e wx (E1.zf g) E0 (TB.o wx (zx HW.o (zx D7.o g))) hr);clear E0 E1 g9;go_wp2_with fail;(with_reducible refine (L9.o [1,2,_] (by simp) _ _ _ _ (yi (Below.refl _ _) (nR _) _) (B0 w9 _ _ _)).mono ?_);rintro e G9 ⟨rfl,E7⟩;have D0:=hid (zx (yi D7.o (nR _) _) E7);clear E7 L9 D7;go_wp2_with fail;go_roundw
         case rel=>exact ⟨k+1,by omega,by omega,by go_num,D0.o⟩
         case measure=>simp [intOf] <;> omega
  . have G7:40<=k:=by omega
    have LD:=hid (DS.o [] [] (.slice none 0 0) (.slice none 0 0) 0 1 wa HA.o (.inl ⟨_,_,rfl,rfl⟩) (.inl ⟨_,_,rfl,rfl⟩) (by simp) (by simp));obtain ⟨x0,x1,x2,x3,x4,x5,_⟩:=(HD.o.zf HA.o).box;go_wp2_with fail;(with_reducible refine LD.o.mono ?_);rintro e I0 ⟨rfl,G0⟩;have C3:=hid (zx HW.o (zx HA.o G0));go_wp2_with fail;(with_reducible refine (WK.o _ C3.o).mono ?_);rintro e I2 ⟨rfl,F9⟩;go_wp2_with fail;go_ret;exact ⟨rfl,zx C3.o F9⟩
end Go.Proofs
