/- Walks: what a configuration bears; the law 'SetsNone'. -/
import Derived.Test.YtiimoclbmaggjaaGreatDoorZSgW
namespace Go.Proofs
open Go.RowKit Go.Lx Go.Md Go.Shelf Go.BigFrame
open Lib(hid)
open Go.Proofs.Tryz
set_option maxRecDepth 100000
set_option maxHeartbeats 0
set_option linter.unusedVariables false
theorem zfY (a1 a2:Option Addr) (n1 n2 c1 c2:Nat) (w wx:World) (g:Below (w.alloc (.cells #[.slice a1 n1 c1,.slice a2 n2 c2] 74)).heap.size (w.alloc (.cells #[.slice a1 n1 c1,.slice a2 n2 c2] 74)) wx):Bl w wx/\wx.cell? ⟨w.heap.size,0,none⟩=some (.slice a1 n1 c1)/\wx.cell? ⟨w.heap.size,1,none⟩=some (.slice a2 n2 c2) :=
 ⟨(zg w _).trans (g.mono (by simp)),(g.cell (p:=⟨w.heap.size,0,none⟩) (by simp)).trans (by simp),(g.cell (p:=⟨w.heap.size,1,none⟩) (by simp)).trans (by simp)⟩
theorem zaT (a1 a2:Option Addr) (n1 n2 c1 c2:Nat) (w:World) (b1:n1<=140737488355328) (b2:n2<=140737488355328):Calls prog 134 #[.agg #[.slice a1 n1 c1,.slice a2 n2 c2]] w fun e w'=>e=.returned (.bool (decide (n1<=40) && decide (n2<=40)))/\Bl w w':=by
 by_cases h1:n1<=40
 . by_cases h2:n2<=40
   . have d1:decide ((n1:Int)<=40)=true:=by simp;omega
     have d2:decide ((n2:Int)<=40)=true:=by simp;omega
     go_enter func134,ntmps134;go_wp2_with fail;go_ret;exact ⟨by rw [decide_eq_true h1,decide_eq_true h2];rfl,zg w _⟩
   . have d1:decide ((n1:Int)<=40)=true:=by simp;omega
     have d2:decide ((n2:Int)<=40)=false:=by simp;omega
     go_enter func134,ntmps134;go_wp2_with fail;go_ret;exact ⟨by rw [decide_eq_true h1,decide_eq_false h2];rfl,zg w _⟩
 . have d1:decide ((n1:Int)<=40)=false:=by simp;omega
   go_enter func134,ntmps134;go_wp2_with fail;go_ret;exact ⟨by rw [decide_eq_false h1];rfl,zg w _⟩
theorem zcn (la ll:List Int) (a1 a2:Option Addr) (c1 c2:Nat) (v:Int) (w:World) (hT:Tab w) (b1:la.length<=140737488355328) (b2:ll.length<=140737488355328) :
   Calls prog 57 #[.agg #[.slice a1 la.length c1,.slice a2 ll.length c2],.int .i64 v] w fun e w'=>e=.returned (.bool true)/\Bl w w':=by
 have WK:=hid (fun wx (g:Bl w wx)=>works20 wx (hT.next g));obtain ⟨n1,hn1⟩:=ex2 la.length;obtain ⟨n2,hn2⟩:=ex2 ll.length;rw [hn1] at b1 |-;rw [hn2] at b2 |-;have BR:=hid (fun wx=>zaT a1 a2 n1 n2 c1 c2 wx b1 b2);have HD:=hid (fun wx g=>zfY a1 a2 n1 n2 c1 c2 w wx g);have i0:∀ w (v0 v1:Value),(Instr.field 74 (.agg #[v0,v1]) 0).run prog w=.ok v0 w:=fun _ _ _=>by kernel_rfl
 clear hT hn1 hn2;go_enter func57,ntmps57;go_upto_region 1 with fail;generalize w.alloc (.cells #[.slice a1 n1 c1,.slice a2 n2 c2] 74)=W1 at *;have hb0:Hid (Bl W1 W1):=hid (Below.refl _ _);obtain ⟨_,d0,d1⟩:=HD.o W1 hb0.o;go_wp2_with fail;(with_reducible refine (BR.o _).mono ?_);rintro e x0 ⟨rfl,hq⟩;have hbx0:Hid (Bl W1 x0):=hid (zi hb0.o hq);generalize (decide (n1<=40) && decide (n2<=40))=bb at *;clear d0 d1 hq hb0
 cases bb
 . obtain ⟨hbw,d0,d1⟩:=HD.o x0 hbx0.o
   have HBw:=hid hbw;clear hbw;go_wp2_with fail;(with_reducible refine (WK.o _ HBw.o).mono ?_);rintro e x1 ⟨rfl,hq⟩;go_wp2_with fail;go_ret;exact ⟨rfl,zi HBw.o hq⟩
 obtain ⟨_,d0,d1⟩:=HD.o x0 hbx0.o;go_wp2_with fail;(with_reducible refine (zcZ a1 a2 n1 n2 c1 c2 _ v).mono ?_);rintro e x1 ⟨rfl,hq⟩;have hby:Hid (Bl W1 (x1.alloc (.cells #[.slice none 0 0,.slice none 0 0] 74))):=hid (zi (zi hbx0.o hq) (zg _ _));clear d0 d1 hq hbx0;go_upto_region 5 with fail;generalize x1.alloc (.cells #[.slice none 0 0,.slice none 0 0] 74)=y1 at *;have hbx1:=hby;obtain ⟨x1,hy1⟩:=ex2 y1;rw [hy1] at hbx1 |-;clear hby hy1;obtain ⟨_,d0,d1⟩:=HD.o x1 hbx1.o;go_wp2_with fail;(with_reducible refine (zc0 a1 a2 n1 n2 c1 c2 _ v).mono ?_);rintro e x2 ⟨rfl,hq⟩;have hby:Hid (Bl W1 (x2.alloc (.cells #[.slice none 0 0,.slice none 0 0] 74))):=hid (zi (zi hbx1.o hq) (zg _ _));clear d0 d1 hq hbx1;go_upto_region 6 with fail;generalize x2.alloc (.cells #[.slice none 0 0,.slice none 0 0] 74)=y2 at *;have hbx2:=hby;obtain ⟨x2,hy2⟩:=ex2 y2;rw [hy2] at hbx2 |-;clear hby hy2;obtain ⟨_,d0,d1⟩:=HD.o x2 hbx2.o;go_wp2_with fail;(with_reducible refine (zdU _ _).mono ?_);rintro e x3 ⟨rfl,hq⟩;have hbx3:Hid (Bl W1 x3):=hid (zi hbx2.o (zl hq));clear d0 d1 hq hbx2;obtain ⟨_,d0,d1⟩:=HD.o x3 hbx3.o;go_wp2_with fail;(with_reducible refine (qN a1 a2 n1 n2 c1 c2 _).mono ?_);rintro e x4 ⟨rfl,hq⟩;have hbx4:Hid (Bl W1 x4):=hid (zi hbx3.o hq);clear d0 d1 hq hbx3;obtain ⟨_,d0,d1⟩:=HD.o x4 hbx4.o;go_wp2_with fail;(with_reducible refine (zcX a1 a2 n1 n2 c1 c2 _ v).mono ?_);rintro e x5 ⟨rfl,hq⟩;have hbx5:Hid (Bl W1 x5):=hid (zi hbx4.o hq);clear d0 d1 hq hbx4;obtain ⟨_,d0,d1⟩:=HD.o x5 hbx5.o;go_wp2_with fail;(with_reducible refine (za8 _ v v).mono ?_);rintro e x6 ⟨rfl,hq⟩;have hbx6:Hid (Bl W1 x6):=hid (zi hbx5.o hq);clear d0 d1 hq hbx5;obtain ⟨_,d0,d1⟩:=HD.o x6 hbx6.o;go_wp2_with fail;(with_reducible refine (zcb a1 a2 n1 n2 c1 c2 _).mono ?_);rintro e x7 ⟨rfl,hq⟩;have hbx7:Hid (Bl W1 x7):=hid (zi hbx6.o hq);clear d0 d1 hq hbx6;obtain ⟨_,d0,d1⟩:=HD.o x7 hbx7.o;go_wp2_with fail;(with_reducible refine (zax a1 a2 n1 n2 c1 c2 _ v).mono ?_);rintro e x8 ⟨rfl,hq⟩;have hbx8:Hid (Bl W1 x8):=hid (zi hbx7.o hq);clear d0 d1 hq hbx7;obtain ⟨_,d0,d1⟩:=HD.o x8 hbx8.o;go_wp2_with fail;(with_reducible refine (zcY _).mono ?_);rintro e x9 ⟨rfl,hq⟩;have hbx9:Hid (Bl W1 x9):=hid (zi hbx8.o hq);clear d0 d1 hq hbx8;obtain ⟨hbw,d0,d1⟩:=HD.o x9 hbx9.o;have HBw:=hid hbw;clear hbw;go_wp2_with fail;(with_reducible refine (WK.o _ HBw.o).mono ?_);rintro e z1 ⟨rfl,hq⟩;go_wp2_with fail;go_ret;exact ⟨rfl,zi HBw.o hq⟩
end Go.Proofs

namespace Go.Proofs
open Go.RowKit Go.Lx Go.Md Go.Shelf Go.BigFrame Go.Rgi
open Lib(hid)
open Go.Proofs.Tryz
set_option maxRecDepth 100000
set_option maxHeartbeats 0
set_option linter.unusedVariables false
theorem put_take (c:Array Value) (L:List Int) (k:Nat) (hk:k<L.length) (hc:L.length<=c.size):(Go.Sort.putCells (Value.int .i64) 0 L.toArray c).toList[k]? = some (.int .i64 L[k]):=by
 rw [Array.getElem?_toList];unfold Go.Sort.putCells;rw [Array.getElem?_mapIdx,Array.getElem?_eq_getElem (by omega),Option.map_some,if_pos ⟨by omega,by simp;omega⟩,Nat.sub_zero,getElem!_pos _ k (by simpa using hk)]
 simp
theorem zeh {N g c:Nat} {T:TypeId} {w:World} {zs L:List Int} (h:w.ownsRow N T 1 (.slice (some ⟨g,0,none⟩) zs.length c) zs.length (nums zs)) (hL:L.length=zs.length) (n:Nat) (os:Array Obj) :
   (Go.Sort.grow (Go.Sort.putRow (Value.int .i64) (Go.Sort.ahead w n) g 0 L.toArray) os).ownsRow N T 1 (.slice (some ⟨g,0,none⟩) zs.length c) L.length (nums L)/\Below N w (Go.Sort.grow (Go.Sort.putRow (Value.int .i64) (Go.Sort.ahead w n) g 0 L.toArray) os):=by
 obtain ⟨h1,h2⟩:=h
 rcases h2 with ⟨h0,_⟩ | ⟨g',c',cur,hv,hg,hh,hn,hcap,hsz,ht⟩
 . cases h0
 . cases hv
   have hlt:=(Array.getElem?_eq_some_iff.1 hh).1;have hLc:L.length<=cur.size:=by omega
   have hs1:(Go.Sort.putRow (Value.int .i64) (Go.Sort.ahead w n) g 0 L.toArray).heap.size=w.heap.size:=by simp [Go.Sort.putRow,Go.Sort.mapBlock,Go.Sort.ahead]
   have hm:(Go.Sort.putRow (Value.int .i64) (Go.Sort.ahead w n) g 0 L.toArray).heap[g]? = some (.cells (Go.Sort.putCells (Value.int .i64) 0 L.toArray cur) T (0,0)):=by
     simp only [Go.Sort.putRow,Go.Sort.mapBlock,Go.Sort.ahead,Array.getElem?_modify,if_true,hh,Option.map_some,Go.Sort.onCells]
   refine ⟨⟨by simp [nums],.inr ⟨g,c,Go.Sort.putCells (Value.int .i64) 0 L.toArray cur,by rw [hL],hg,?_,by omega,hcap,?_,?_⟩⟩,rfl,rfl,rfl,?_,fun b hb=>?_⟩
   . rw [Go.Sort.heap_grow_old _ _ (by rw [hs1];exact hlt)];exact hm
   . unfold Go.Sort.putCells;rw [Array.size_mapIdx];exact hsz
   . apply List.ext_getElem?
     intro k;rw [List.getElem?_take];rw [Nat.mul_one]
     by_cases hk:k<L.length
     . rw [if_pos hk,put_take cur L k hk hLc]
       simp [nums,hk]
     . rw [if_neg hk,List.getElem?_eq_none (by simp [nums];omega)]
   . rw [Go.Sort.size_grow,hs1];omega
   . by_cases hbz:b<w.heap.size
     . rw [Go.Sort.heap_grow_old _ _ (by rw [hs1];exact hbz)]
       simp only [Go.Sort.putRow,Go.Sort.mapBlock,Go.Sort.ahead,Array.getElem?_modify];rw [if_neg (by omega)]
     . omega
theorem sort_any {N:Nat} {w:World} {v:Value} {zs:List Int} (h:w.ownsRow N 3 1 v zs.length (nums zs)) (hl:zs.length<=1000000) :
   Calls prog 228 #[v] w fun e w'=>e=.returned (.tuple #[])/\w'.ownsRow N 3 1 v (zs.mergeSort fun x y=>decide (x<=y)).length (nums (zs.mergeSort fun x y=>decide (x<=y)))/\Below N w w':=by
 by_cases h0:zs.length=0
 . have e:zs=[]:=List.length_eq_zero_iff.1 h0
   obtain ⟨a,c,rfl⟩:=zj h;subst e;refine (Any.slices_Sort_int_none Tryz.lays189 a c w).mono ?_;rintro e w' ⟨rfl,rfl⟩;exact ⟨rfl,by simpa using h,Below.refl _ _⟩
 . obtain ⟨g,c,rfl⟩:=zF h (by omega)
   refine (Tryz.slices_Sort_int g 0 c zs w (fun j hj=>?_) (h.lt g rfl).2 (by omega)).mono ?_
   . have hjl:j<zs.length:=by simpa using hj
     rw [Nat.zero_add];refine ⟨?_,h.frozenAt j⟩;rw [getElem!_pos _ j hj];exact (h.cellAt j (by omega)).trans (by simp [nums,hjl])
   . rintro e w' ⟨rfl,n,os,rfl⟩
     have:=zeh h (L:=zs.mergeSort fun x y=>decide (x<=y)) (List.length_mergeSort _) n os;exact ⟨rfl,this.1,this.2⟩
def actC (m:MdlD) (la ll:List Int):List Int:=if fit2 m la ll then actS la else []
theorem zdo (x:Int) (w:World):Calls prog 227 #[.int .i64 x] w fun e w'=>e=.returned (.bool (decide (x<0)))/\Bl w w':=by
 cases hx:decide (x<0) with
 | false =>
  have h1:¬ (x<0):=of_decide_eq_false hx;go_enter func227,ntmps227;go_wp2_with fail;go_ret;exact ⟨rfl,Below.refl _ _⟩
 | true =>
  have h1:x<0:=of_decide_eq_true hx;go_enter func227,ntmps227;go_wp2_with fail;go_ret;exact ⟨rfl,Below.refl _ _⟩
theorem zei {B:Nat} {m:MdlD} {SB:Nat} {w:World} (h:SetAt B m SB w) (h0:riM m=(0,0,0)) (hm1:m.zb.length<=1000) (hm2:m.zc.length<=1000) (la ll:List Int) (a1 a2:Option Addr) (c1 c2:Nat) (h1:RowIn w (.slice a1 la.length c1) la) (h2:RowIn w (.slice a2 ll.length c2) ll) (b1:la.length<=140737488355328) (b2:ll.length<=140737488355328) :
   Calls prog 143 #[.pointer (some ⟨SB,0,none⟩),.agg #[.slice a1 la.length c1,.slice a2 ll.length c2]] w (RowP (actC m la ll) w):=by
 have HB1:Hid (Bl w (w.alloc (.cells #[.slice a1 la.length c1,.slice a2 ll.length c2] 74))):=hid (zg w _);have HC:=hid (Cb.made h1 h2);have FT:=hid (yx (h.grown HB1.o) h0 la ll a1 a2 c1 c2 HC.o.r1 HC.o.r2 b1 b2 (by omega));unfold RowP;have HE:Hid (∀ b,fit2 m la ll=b->actC m la ll=if b then actS la else []):=hid fun b hb=>by unfold actC;rw [hb]
 have HF:=hid (fun hf:fit2 m la ll=true=>(kA h0 hf).1);have hrp:=zcG h0;generalize actC m la ll=X at *;generalize fit2 m la ll=fb at *;clear h h1 h2 b1 b2 h0;go_enter func143,ntmps143;go_upto_region 1 with fail;generalize w.alloc (.cells #[.slice a1 la.length c1,.slice a2 ll.length c2] 74)=W1 at *;have d0:=HC.o.d0;have d1:=HC.o.d1
 cases fb
 . have HX:Hid (X=[]):=hid ((HE.o false rfl).trans (if_neg (by decide)))
   clear HE;go_wp2_with fail;(with_reducible refine (FT.o).mono ?_);rintro e w2 ⟨rfl,g2⟩;go_wp2_with fail;go_ret;rw [HX.o];exact ⟨_,rfl,World.ownsRow_nil _ _ _ _,HB1.o.trans (g2.mono HB1.o.size)⟩
 . have F:=hid (HF.o (by trivial))
   have HX:Hid (X=(la.filter fun x=>!decide (x<0)).mergeSort fun x y=>decide (x<=y)):=hid (by
     rw [HE.o true rfl,if_pos rfl];unfold actS;congr 1;refine List.filter_congr fun x _=>?_
     by_cases hx:x<0
     . rw [decide_eq_true hx,decide_eq_false (by omega)];rfl
     . rw [decide_eq_false hx,decide_eq_true (by omega)];rfl)
   go_wp2_with fail;(with_reducible refine (FT.o).mono ?_);rintro e w2 ⟨rfl,g2⟩;have HC2:=hid (HC.o.zf g2);have HB2:=hid (HB1.o.trans (g2.mono HB1.o.size));have hz2:w.heap.size<=w2.heap.size:=HB2.o.size;have hla:la.length<=1000:=by rw [F.o.hl];exact hm1
   have CL:=hid (cloneIn HC2.o.r1 (by omega) (.inl (fun e=>by have:=F.o.hl;rw [e] at this;simp at this;omega)));clear d0 d1 HC HB1 FT g2 HF HE;have d0:=HC2.o.d0;unfold RowP at CL;go_wp2_with fail;(with_reducible refine (CL.o).mono ?_);rintro e w3 ⟨v3,rfl,o3,g3⟩;obtain ⟨a3,c3,rfl⟩:=zj o3;have TH:=hid (zdT (fun x=>decide (x<0)) la (.slice a3 la.length c3) w2.heap.size w3 o3 g3.size (by omega) (fun wx _ x _=>zdo x wx));have HB3:=hid (zi HB2.o g3);have hz3:w.heap.size<=w3.heap.size:=HB3.o.size;clear d0 CL g3 o3;unfold DelP at TH;have hD:(la.filter fun x=>!decide (x<0)).length<=la.length:=List.length_filter_le _ _;generalize (la.filter fun x=>!decide (x<0))=D at *;go_wp2_with fail;(with_reducible refine (TH.o).mono ?_);rintro e w4 ⟨v4,rfl,o4,g4⟩;obtain ⟨a4,c4,rfl⟩:=zj o4;have SR:=hid (sort_any o4 (by omega));have HB4:=hid (HB3.o.trans (g4.mono hz2));clear TH g4 o4;go_wp2_with fail;(with_reducible refine (SR.o).mono ?_);rintro e w5 ⟨rfl,o5,g5⟩;go_wp2_with fail;go_ret;rw [HX.o];exact ⟨_,rfl,o5.mono hz2,HB4.o.trans (g5.mono hz2)⟩
end Go.Proofs
