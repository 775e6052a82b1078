/- A model as it came in. -/
import Derived.Test.YtfladiadgkfebaaGreatDoorDMdIJ
import Derived.Deep.Slices
import Derived.Deep.OwnShut
import Derived.Deep.Strs
import Derived.SizedLaws
import Derived.OpenShut
namespace Go.Proofs
open Go.RowKit Go.Lx Go.Md Go.Shelf Go.ChangeShapes Go.WideShapes Go.Deep
set_option linter.unusedVariables false
structure VarOk (x:VarD):Prop where
 nm:x.nm.size≤140737488355328
 ini:-9223372036854775808≤x.ini∧x.ini≤9223372036854775807
structure RegOk (x:RegD):Prop where
 nm:x.nm.size≤140737488355328
 own:-9223372036854775808≤x.own∧x.own≤9223372036854775807
theorem weightsAll_in {H:Type} {P:Program} {e:TypeId}:∀ {l:List (DataW H)} {d:DataW H},d ∈ l→∀ n ∈ d.weights P e,n ∈ DataW.weightsAll P e l
 | a :: r,d,h,n,hn=>by
   rw [DataW.weightsAll,List.mem_append]
   rcases List.mem_cons.1 h with rfl | h
   · exact .inl hn
   · exact .inr (weightsAll_in h n hn)
def Wt {H:Type} (t:TypeId) (d:DataW H):Prop:=∀ k ∈ d.weights Tryz.prog t,k≤reachBytes
theorem listN2 {α:Type} {l:List α} (h:l.length=2):∃ c0 c1,l=[c0,c1]:=by
 match l,h with
 | [c0,c1],_=>exact ⟨c0,c1,rfl⟩
theorem listN6 {α:Type} {l:List α} (h:l.length=6):∃ c0 c1 c2 c3 c4 c5,l=[c0,c1,c2,c3,c4,c5]:=by
 match l,h with
 | [c0,c1,c2,c3,c4,c5],_=>exact ⟨c0,c1,c2,c3,c4,c5,rfl⟩
theorem listN8 {α:Type} {l:List α} (h:l.length=8):∃ c0 c1 c2 c3 c4 c5 c6 c7,l=[c0,c1,c2,c3,c4,c5,c6,c7]:=by
 match l,h with
 | [c0,c1,c2,c3,c4,c5,c6,c7],_=>exact ⟨c0,c1,c2,c3,c4,c5,c6,c7,rfl⟩
theorem rows_open {α H:Type} {enc:TypeId × Value→H} {W:World} {t e:TypeId} (ht:Tryz.prog.underlying t=some (.slice e)) {sz:Nat} (hc:Tryz.prog.cellsOf e=sz) (hz:0<sz) (hb:0<Tryz.prog.bytesOf e) {E:World→Nat→Nat→α→Prop} {OK:α→Prop}
   (hel:∀ m cs y,DataW.trod enc Tryz.prog W 0 (fun _=>true) true m e cs=some y→Wt e y.1→∃ a:α,OK a∧∀ b o,(∀ j,j<sz→W.cell? ⟨b,o+j,none⟩=cs[j]?)→E W b o a)
   {fuel:Nat} {cs:List Value} {x:DataW H × List MemPlace} (h:DataW.trod enc Tryz.prog W 0 (fun _=>true) true fuel t cs=some x) (hw:Wt t x.1) :
   ∃ (l:List α) (a:Option Addr) (c:Nat),cs=[.slice a l.length c]∧Sl anyB sz E W (.slice a l.length c) l∧l.length≤140737488355328∧∀ x ∈ l,OK x:=by
 rcases open_slice ht h with ⟨hcs,_⟩ | ⟨a,n0,cap,m,n,D,Pl,hcs,hbase,hl,hm,hmm,rfl,hall⟩
 · exact ⟨[],none,0,hcs,.inl ⟨_,_,rfl,rfl⟩,by simp,by simp⟩
 rw [if_pos rfl] at hmm
 by_cases hz0:n0=0
 · subst hz0
   exact ⟨[],some a,cap,hcs,.inl ⟨_,_,rfl,rfl⟩,by simp,by simp⟩
 have hsz:n0 * 1≤reachBytes:=by
   have:=hw (((List.range n0).map D).length * Tryz.prog.bytesOf e+((List.range (m - n0)).map fun j=>D (n0+j)).length * Tryz.prog.bytesOf e) (by simp only [DataW.weights,ht,List.mem_cons,Nat.add_mul];exact .inl trivial)
   rw [List.length_map,List.length_range] at this
   exact Nat.le_trans (Nat.le_trans (Nat.mul_le_mul_left _ hb) (Nat.le_add_right _ _)) this
 rw [Nat.mul_one] at hsz
 unfold reachBytes at hsz
 rw [hc] at hall
 have hone:∀ i,i<n0→∃ (cs':List Value) (y:α),(cs'.length=sz∧∀ j,j<sz→W.cell? ((a.add (i * sz)).add j)=cs'[j]?)∧OK y∧∀ b o,(∀ j,j<sz→W.cell? ⟨b,o+j,none⟩=cs'[j]?)→E W b o y:=fun i hi=>by
   obtain ⟨cs',h1,h2⟩:=hall i (by omega)
   obtain ⟨_,hlen,hcc⟩:=World.cells?_some h1
   obtain ⟨y,hy1,hy2⟩:=hel _ _ _ h2 (fun k hk=>hw k (by simp only [DataW.weights,ht,List.mem_cons,List.mem_append];exact .inr (.inl (weightsAll_in (List.mem_map.2 ⟨i,List.mem_range.2 hi,rfl⟩) k hk))))
   exact ⟨cs',y,⟨hlen,hcc⟩,hy1,hy2⟩
 obtain ⟨cs0,y0,⟨hl0,hcc0⟩,-,-⟩:=hone 0 (by omega)
 have c00:=hcc0 0 hz
 have ha0:(a.add (0 * sz)).add 0=a:=by unfold Addr.add;simp
 rw [ha0,List.getElem?_eq_getElem (by omega)] at c00
 obtain ⟨b,off,spot⟩:=a
 obtain rfl:spot=none:=World.cell?_spot c00
 have hb:b<W.heap.size:=World.block_lt_of_cell? W _ c00
 have hadd:∀ o j,(⟨b,o,none⟩:Addr).add j=⟨b,o+j,none⟩:=fun o j=>Go.WideShapes.add_plain ..
 have hch:∀ i,∃ y:α,i<n0→OK y∧E W b (off+i * sz) y:=fun i=>by
   by_cases hi:i<n0
   · obtain ⟨cs',y,⟨_,h2⟩,h3,h4⟩:=hone i hi
     exact ⟨y,fun _=>⟨h3,h4 _ _ fun j hj=>by rw [← h2 j hj,hadd,hadd]⟩⟩
   · exact ⟨y0,fun h=>absurd h hi⟩
 obtain ⟨f,hf⟩:=Classical.axiomOfChoice hch
 refine ⟨(List.range n0).map f,_,_,?_,.inr ⟨b,off,cap,rfl,by simpa using hl,hb,trivial,fun i hi=>?_⟩,by simp;omega,fun x hx=>?_⟩
 · rw [hcs];simp
 · simp only [List.length_map,List.length_range] at hi
   simp only [List.getElem_map,List.getElem_range]
   exact (hf i hi).2
 · obtain ⟨i,hi,rfl⟩:=List.mem_map.1 hx
   exact (hf i (List.mem_range.1 hi)).1
theorem i64_of {n:Int} (h:(Lit.int .i64 n).wf=true):-9223372036854775808≤n∧n≤9223372036854775807:=by
 exact Go.bounds_i64 h
theorem str_wt {H:Type} {s:ByteArray} {t:TypeId} (h:Wt (H:=H) t (.lit (.string s.data.toList))):s.size≤140737488355328:=by
 have:=h s.size (by simp [DataW.weights])
 unfold reachBytes at this
 omega
theorem txts_open {H:Type} {enc:TypeId × Value→H} {W:World} {fuel:Nat} {cs:List Value} {x:DataW H × List MemPlace} (h:DataW.trod enc Tryz.prog W 0 (fun _=>true) true fuel 28 cs=some x) (hw:Wt 28 x.1) :
   ∃ (l:List ByteArray) (a:Option Addr) (c:Nat),cs=[.slice a l.length c]∧SlS anyB W (.slice a l.length c) l∧l.length≤140737488355328∧∀ x ∈ l,x.size≤140737488355328:=by
 obtain ⟨l,a,c,h1,h2,h3,h4⟩:=rows_open (E:=TxtE) (OK:=fun x=>x.size≤140737488355328) Tryz.underlying28 (sz:=1) (by kernel_rfl) (by omega) (of_decide_eq_true (by kernel_rfl)) (fun m cs y hy hw=>by
   obtain ⟨s,rfl,rfl,_⟩:=DataW.trod_string Tryz.underlying9 hy
   exact ⟨s,str_wt hw,fun b o hj=>hj 0 (by omega)⟩) h hw
 exact ⟨l,a,c,h1,SlS.sl.2 h2,h3,h4⟩
set_option maxRecDepth 100000 in
theorem var_open {H:Type} {enc:TypeId × Value→H} {W:World} (m:Nat) (cs:List Value) (y:DataW H × List MemPlace)
   (h:DataW.trod enc Tryz.prog W 0 (fun _=>true) true m 89 cs=some y) (hw:Wt 89 y.1):∃ x:VarD,VarOk x∧∀ b o,(∀ j,j<2→W.cell? ⟨b,o+j,none⟩=cs[j]?)→VarE W b o x:=by
 obtain ⟨xs,n,_,rfl,hl,hxl,hf⟩:=DataW.trod_struct Tryz.underlying89 h
 have hw1:∀ k ∈ DataW.weightsEach Tryz.prog [9,2] (xs.map (·.1)),k≤reachBytes:=fun k hk=>hw k (by simp only [DataW.weights,Tryz.underlying89];exact hk)
 rw [show Tryz.prog.cellsOf 89=2 by kernel_rfl] at hl
 obtain ⟨c0,c1,rfl⟩:=listN2 hl
 have hxl:xs.length=2:=hxl
 have f0:=hf 0 _ rfl
 rw [List.getElem?_eq_getElem (by omega)] at f0
 have f0:DataW.trod enc Tryz.prog W 0 (fun _=>true) true n 9 [c0]=some xs[0]:=f0
 have g0:Wt 9 xs[0].1:=fun k hk=>hw1 k (DataW.weights_mem_each (j:=0) rfl (by rw [List.getElem?_map,List.getElem?_eq_getElem (by omega)];rfl) k hk)
 obtain ⟨v0,e0,d0,_⟩:=DataW.trod_string Tryz.underlying9 f0
 rw [d0] at g0
 have w0:=str_wt g0
 simp only [List.cons.injEq,and_true] at e0
 subst e0
 have f1:=hf 1 _ rfl
 rw [List.getElem?_eq_getElem (by omega)] at f1
 have f1:DataW.trod enc Tryz.prog W 0 (fun _=>true) true n 2 [c1]=some xs[1]:=f1
 have g1:Wt 2 xs[1].1:=fun k hk=>hw1 k (DataW.weights_mem_each (j:=1) rfl (by rw [List.getElem?_map,List.getElem?_eq_getElem (by omega)];rfl) k hk)
 obtain ⟨v1,e1,_,w1⟩:=DataW.trod_int Tryz.underlying2 f1
 simp only [List.cons.injEq,and_true] at e1
 subst e1
 refine ⟨{ nm:=v0,ini:=v1 },{ nm:=w0,ini:=i64_of w1 },fun b o hj=>?_⟩
 exact ⟨hj 0 (by omega),hj 1 (by omega)⟩
set_option maxRecDepth 100000 in
theorem reg_open {H:Type} {enc:TypeId × Value→H} {W:World} (m:Nat) (cs:List Value) (y:DataW H × List MemPlace)
   (h:DataW.trod enc Tryz.prog W 0 (fun _=>true) true m 57 cs=some y) (hw:Wt 57 y.1):∃ x:RegD,RegOk x∧∀ b o,(∀ j,j<2→W.cell? ⟨b,o+j,none⟩=cs[j]?)→RegE W b o x:=by
 obtain ⟨xs,n,_,rfl,hl,hxl,hf⟩:=DataW.trod_struct Tryz.underlying57 h
 have hw1:∀ k ∈ DataW.weightsEach Tryz.prog [9,3] (xs.map (·.1)),k≤reachBytes:=fun k hk=>hw k (by simp only [DataW.weights,Tryz.underlying57];exact hk)
 rw [show Tryz.prog.cellsOf 57=2 by kernel_rfl] at hl
 obtain ⟨c0,c1,rfl⟩:=listN2 hl
 have hxl:xs.length=2:=hxl
 have f0:=hf 0 _ rfl
 rw [List.getElem?_eq_getElem (by omega)] at f0
 have f0:DataW.trod enc Tryz.prog W 0 (fun _=>true) true n 9 [c0]=some xs[0]:=f0
 have g0:Wt 9 xs[0].1:=fun k hk=>hw1 k (DataW.weights_mem_each (j:=0) rfl (by rw [List.getElem?_map,List.getElem?_eq_getElem (by omega)];rfl) k hk)
 obtain ⟨v0,e0,d0,_⟩:=DataW.trod_string Tryz.underlying9 f0
 rw [d0] at g0
 have w0:=str_wt g0
 simp only [List.cons.injEq,and_true] at e0
 subst e0
 have f1:=hf 1 _ rfl
 rw [List.getElem?_eq_getElem (by omega)] at f1
 have f1:DataW.trod enc Tryz.prog W 0 (fun _=>true) true n 3 [c1]=some xs[1]:=f1
 have g1:Wt 3 xs[1].1:=fun k hk=>hw1 k (DataW.weights_mem_each (j:=1) rfl (by rw [List.getElem?_map,List.getElem?_eq_getElem (by omega)];rfl) k hk)
 obtain ⟨v1,e1,_,w1⟩:=DataW.trod_int Tryz.underlying3 f1
 simp only [List.cons.injEq,and_true] at e1
 subst e1
 refine ⟨{ nm:=v0,own:=v1 },{ nm:=w0,own:=i64_of w1 },fun b o hj=>?_⟩
 exact ⟨hj 0 (by omega),hj 1 (by omega)⟩
set_option maxRecDepth 100000 in
theorem ver_open {H:Type} {enc:TypeId × Value→H} {W:World} (m:Nat) (cs:List Value) (y:DataW H × List MemPlace)
   (h:DataW.trod enc Tryz.prog W 0 (fun _=>true) true m 49 cs=some y) (hw:Wt 49 y.1):∃ x:VerD,VerOk x∧∀ b o,(∀ j,j<8→W.cell? ⟨b,o+j,none⟩=cs[j]?)→VerE anyB W b o x:=by
 obtain ⟨xs,n,_,rfl,hl,hxl,hf⟩:=DataW.trod_struct Tryz.underlying49 h
 have hw1:∀ k ∈ DataW.weightsEach Tryz.prog [9,5,3,3,9,9,28,9] (xs.map (·.1)),k≤reachBytes:=fun k hk=>hw k (by simp only [DataW.weights,Tryz.underlying49];exact hk)
 rw [show Tryz.prog.cellsOf 49=8 by kernel_rfl] at hl
 obtain ⟨c0,c1,c2,c3,c4,c5,c6,c7,rfl⟩:=listN8 hl
 have hxl:xs.length=8:=hxl
 have f0:=hf 0 _ rfl
 rw [List.getElem?_eq_getElem (by omega)] at f0
 have f0:DataW.trod enc Tryz.prog W 0 (fun _=>true) true n 9 [c0]=some xs[0]:=f0
 have g0:Wt 9 xs[0].1:=fun k hk=>hw1 k (DataW.weights_mem_each (j:=0) rfl (by rw [List.getElem?_map,List.getElem?_eq_getElem (by omega)];rfl) k hk)
 obtain ⟨v0,e0,d0,_⟩:=DataW.trod_string Tryz.underlying9 f0
 rw [d0] at g0
 have w0:=str_wt g0
 simp only [List.cons.injEq,and_true] at e0
 subst e0
 have f1:=hf 1 _ rfl
 rw [List.getElem?_eq_getElem (by omega)] at f1
 have f1:DataW.trod enc Tryz.prog W 0 (fun _=>true) true n 5 [c1]=some xs[1]:=f1
 have g1:Wt 5 xs[1].1:=fun k hk=>hw1 k (DataW.weights_mem_each (j:=1) rfl (by rw [List.getElem?_map,List.getElem?_eq_getElem (by omega)];rfl) k hk)
 obtain ⟨z1,e1,_,u1⟩:=DataW.trod_int Tryz.underlying5 f1
 have w1:=Go.bounds_u8 u1
 obtain ⟨v1,rfl⟩:=Int.eq_ofNat_of_zero_le w1.1
 simp only [List.cons.injEq,and_true] at e1
 subst e1
 have f2:=hf 2 _ rfl
 rw [List.getElem?_eq_getElem (by omega)] at f2
 have f2:DataW.trod enc Tryz.prog W 0 (fun _=>true) true n 3 [c2]=some xs[2]:=f2
 have g2:Wt 3 xs[2].1:=fun k hk=>hw1 k (DataW.weights_mem_each (j:=2) rfl (by rw [List.getElem?_map,List.getElem?_eq_getElem (by omega)];rfl) k hk)
 obtain ⟨v2,e2,_,w2⟩:=DataW.trod_int Tryz.underlying3 f2
 simp only [List.cons.injEq,and_true] at e2
 subst e2
 have f3:=hf 3 _ rfl
 rw [List.getElem?_eq_getElem (by omega)] at f3
 have f3:DataW.trod enc Tryz.prog W 0 (fun _=>true) true n 3 [c3]=some xs[3]:=f3
 have g3:Wt 3 xs[3].1:=fun k hk=>hw1 k (DataW.weights_mem_each (j:=3) rfl (by rw [List.getElem?_map,List.getElem?_eq_getElem (by omega)];rfl) k hk)
 obtain ⟨v3,e3,_,w3⟩:=DataW.trod_int Tryz.underlying3 f3
 simp only [List.cons.injEq,and_true] at e3
 subst e3
 have f4:=hf 4 _ rfl
 rw [List.getElem?_eq_getElem (by omega)] at f4
 have f4:DataW.trod enc Tryz.prog W 0 (fun _=>true) true n 9 [c4]=some xs[4]:=f4
 have g4:Wt 9 xs[4].1:=fun k hk=>hw1 k (DataW.weights_mem_each (j:=4) rfl (by rw [List.getElem?_map,List.getElem?_eq_getElem (by omega)];rfl) k hk)
 obtain ⟨v4,e4,d4,_⟩:=DataW.trod_string Tryz.underlying9 f4
 rw [d4] at g4
 have w4:=str_wt g4
 simp only [List.cons.injEq,and_true] at e4
 subst e4
 have f5:=hf 5 _ rfl
 rw [List.getElem?_eq_getElem (by omega)] at f5
 have f5:DataW.trod enc Tryz.prog W 0 (fun _=>true) true n 9 [c5]=some xs[5]:=f5
 have g5:Wt 9 xs[5].1:=fun k hk=>hw1 k (DataW.weights_mem_each (j:=5) rfl (by rw [List.getElem?_map,List.getElem?_eq_getElem (by omega)];rfl) k hk)
 obtain ⟨v5,e5,d5,_⟩:=DataW.trod_string Tryz.underlying9 f5
 rw [d5] at g5
 have w5:=str_wt g5
 simp only [List.cons.injEq,and_true] at e5
 subst e5
 have f6:=hf 6 _ rfl
 rw [List.getElem?_eq_getElem (by omega)] at f6
 have f6:DataW.trod enc Tryz.prog W 0 (fun _=>true) true n 28 [c6]=some xs[6]:=f6
 have g6:Wt 28 xs[6].1:=fun k hk=>hw1 k (DataW.weights_mem_each (j:=6) rfl (by rw [List.getElem?_map,List.getElem?_eq_getElem (by omega)];rfl) k hk)
 obtain ⟨v6,a6,p6,e6,s6,w6,q6⟩:=txts_open f6 g6
 simp only [List.cons.injEq,and_true] at e6
 subst e6
 have f7:=hf 7 _ rfl
 rw [List.getElem?_eq_getElem (by omega)] at f7
 have f7:DataW.trod enc Tryz.prog W 0 (fun _=>true) true n 9 [c7]=some xs[7]:=f7
 have g7:Wt 9 xs[7].1:=fun k hk=>hw1 k (DataW.weights_mem_each (j:=7) rfl (by rw [List.getElem?_map,List.getElem?_eq_getElem (by omega)];rfl) k hk)
 obtain ⟨v7,e7,d7,_⟩:=DataW.trod_string Tryz.underlying9 f7
 rw [d7] at g7
 have w7:=str_wt g7
 simp only [List.cons.injEq,and_true] at e7
 subst e7
 refine ⟨{ nm:=v0,kd:=v1,rg:=v2,ofv:=v3,en:=v4,ex:=v5,df:=v6,sb:=v7 },{ nm:=w0,kd:=by show v1<256;omega,rg:=i64_of w2,ofv:=i64_of w3,en:=w4,ex:=w5,df:=w6,dfs:=q6,sb:=w7 },fun b o hj=>?_⟩
 exact ⟨_,s6,hj 0 (by omega),hj 1 (by omega),hj 2 (by omega),hj 3 (by omega),hj 4 (by omega),hj 5 (by omega),hj 6 (by omega),hj 7 (by omega)⟩
set_option maxRecDepth 100000 in
theorem trn_open {H:Type} {enc:TypeId × Value→H} {W:World} (m:Nat) (cs:List Value) (y:DataW H × List MemPlace)
   (h:DataW.trod enc Tryz.prog W 0 (fun _=>true) true m 59 cs=some y) (hw:Wt 59 y.1):∃ x:TrnD,TrnOk x∧∀ b o,(∀ j,j<8→W.cell? ⟨b,o+j,none⟩=cs[j]?)→TrnE anyB W b o x:=by
 obtain ⟨xs,n,_,rfl,hl,hxl,hf⟩:=DataW.trod_struct Tryz.underlying59 h
 have hw1:∀ k ∈ DataW.weightsEach Tryz.prog [9,3,3,28,3,9,9,5] (xs.map (·.1)),k≤reachBytes:=fun k hk=>hw k (by simp only [DataW.weights,Tryz.underlying59];exact hk)
 rw [show Tryz.prog.cellsOf 59=8 by kernel_rfl] at hl
 obtain ⟨c0,c1,c2,c3,c4,c5,c6,c7,rfl⟩:=listN8 hl
 have hxl:xs.length=8:=hxl
 have f0:=hf 0 _ rfl
 rw [List.getElem?_eq_getElem (by omega)] at f0
 have f0:DataW.trod enc Tryz.prog W 0 (fun _=>true) true n 9 [c0]=some xs[0]:=f0
 have g0:Wt 9 xs[0].1:=fun k hk=>hw1 k (DataW.weights_mem_each (j:=0) rfl (by rw [List.getElem?_map,List.getElem?_eq_getElem (by omega)];rfl) k hk)
 obtain ⟨v0,e0,d0,_⟩:=DataW.trod_string Tryz.underlying9 f0
 rw [d0] at g0
 have w0:=str_wt g0
 simp only [List.cons.injEq,and_true] at e0
 subst e0
 have f1:=hf 1 _ rfl
 rw [List.getElem?_eq_getElem (by omega)] at f1
 have f1:DataW.trod enc Tryz.prog W 0 (fun _=>true) true n 3 [c1]=some xs[1]:=f1
 have g1:Wt 3 xs[1].1:=fun k hk=>hw1 k (DataW.weights_mem_each (j:=1) rfl (by rw [List.getElem?_map,List.getElem?_eq_getElem (by omega)];rfl) k hk)
 obtain ⟨v1,e1,_,w1⟩:=DataW.trod_int Tryz.underlying3 f1
 simp only [List.cons.injEq,and_true] at e1
 subst e1
 have f2:=hf 2 _ rfl
 rw [List.getElem?_eq_getElem (by omega)] at f2
 have f2:DataW.trod enc Tryz.prog W 0 (fun _=>true) true n 3 [c2]=some xs[2]:=f2
 have g2:Wt 3 xs[2].1:=fun k hk=>hw1 k (DataW.weights_mem_each (j:=2) rfl (by rw [List.getElem?_map,List.getElem?_eq_getElem (by omega)];rfl) k hk)
 obtain ⟨v2,e2,_,w2⟩:=DataW.trod_int Tryz.underlying3 f2
 simp only [List.cons.injEq,and_true] at e2
 subst e2
 have f3:=hf 3 _ rfl
 rw [List.getElem?_eq_getElem (by omega)] at f3
 have f3:DataW.trod enc Tryz.prog W 0 (fun _=>true) true n 28 [c3]=some xs[3]:=f3
 have g3:Wt 28 xs[3].1:=fun k hk=>hw1 k (DataW.weights_mem_each (j:=3) rfl (by rw [List.getElem?_map,List.getElem?_eq_getElem (by omega)];rfl) k hk)
 obtain ⟨v3,a3,p3,e3,s3,w3,q3⟩:=txts_open f3 g3
 simp only [List.cons.injEq,and_true] at e3
 subst e3
 have f4:=hf 4 _ rfl
 rw [List.getElem?_eq_getElem (by omega)] at f4
 have f4:DataW.trod enc Tryz.prog W 0 (fun _=>true) true n 3 [c4]=some xs[4]:=f4
 have g4:Wt 3 xs[4].1:=fun k hk=>hw1 k (DataW.weights_mem_each (j:=4) rfl (by rw [List.getElem?_map,List.getElem?_eq_getElem (by omega)];rfl) k hk)
 obtain ⟨v4,e4,_,w4⟩:=DataW.trod_int Tryz.underlying3 f4
 simp only [List.cons.injEq,and_true] at e4
 subst e4
 have f5:=hf 5 _ rfl
 rw [List.getElem?_eq_getElem (by omega)] at f5
 have f5:DataW.trod enc Tryz.prog W 0 (fun _=>true) true n 9 [c5]=some xs[5]:=f5
 have g5:Wt 9 xs[5].1:=fun k hk=>hw1 k (DataW.weights_mem_each (j:=5) rfl (by rw [List.getElem?_map,List.getElem?_eq_getElem (by omega)];rfl) k hk)
 obtain ⟨v5,e5,d5,_⟩:=DataW.trod_string Tryz.underlying9 f5
 rw [d5] at g5
 have w5:=str_wt g5
 simp only [List.cons.injEq,and_true] at e5
 subst e5
 have f6:=hf 6 _ rfl
 rw [List.getElem?_eq_getElem (by omega)] at f6
 have f6:DataW.trod enc Tryz.prog W 0 (fun _=>true) true n 9 [c6]=some xs[6]:=f6
 have g6:Wt 9 xs[6].1:=fun k hk=>hw1 k (DataW.weights_mem_each (j:=6) rfl (by rw [List.getElem?_map,List.getElem?_eq_getElem (by omega)];rfl) k hk)
 obtain ⟨v6,e6,d6,_⟩:=DataW.trod_string Tryz.underlying9 f6
 rw [d6] at g6
 have w6:=str_wt g6
 simp only [List.cons.injEq,and_true] at e6
 subst e6
 have f7:=hf 7 _ rfl
 rw [List.getElem?_eq_getElem (by omega)] at f7
 have f7:DataW.trod enc Tryz.prog W 0 (fun _=>true) true n 5 [c7]=some xs[7]:=f7
 have g7:Wt 5 xs[7].1:=fun k hk=>hw1 k (DataW.weights_mem_each (j:=7) rfl (by rw [List.getElem?_map,List.getElem?_eq_getElem (by omega)];rfl) k hk)
 obtain ⟨z7,e7,_,u7⟩:=DataW.trod_int Tryz.underlying5 f7
 have w7:=Go.bounds_u8 u7
 obtain ⟨v7,rfl⟩:=Int.eq_ofNat_of_zero_le w7.1
 simp only [List.cons.injEq,and_true] at e7
 subst e7
 refine ⟨{ nm:=v0,src:=v1,tgt:=v2,tr:=v3,af:=v4,gd:=v5,ef:=v6,kd:=v7 },{ nm:=w0,src:=i64_of w1,tgt:=i64_of w2,tr:=w3,trs:=q3,af:=i64_of w4,gd:=w5,ef:=w6,kd:=by show v7<256;omega },fun b o hj=>?_⟩
 exact ⟨_,s3,hj 0 (by omega),hj 1 (by omega),hj 2 (by omega),hj 3 (by omega),hj 4 (by omega),hj 5 (by omega),hj 6 (by omega),hj 7 (by omega)⟩
set_option maxRecDepth 100000 in
theorem mdl_raw {H:Type} {enc:TypeId × Value→H} {W:World} (m0:Nat) (cl:List Value) (y:DataW H × List MemPlace)
   (hf0:DataW.trod enc Tryz.prog W 0 (fun _=>true) true m0 42 cl=some y) (hw:Wt 42 y.1):∃ (m:MdlD) (p:Ph),cl=[.string m.nm,.slice p.a1 m.vars.length p.c1,.slice p.a2 m.evs.length p.c2,.slice p.a3 m.regs.length p.c3,.slice p.a4 m.vers.length p.c4,.slice p.a5 m.trns.length p.c5]∧Mod anyM W m p∧MdlOk m:=by
 obtain ⟨xs,n,_,rfl,hl,hxl,hf⟩:=DataW.trod_struct Tryz.underlying42 hf0
 have hw1:∀ k ∈ DataW.weightsEach Tryz.prog [9,37,28,38,39,40] (xs.map (·.1)),k≤reachBytes:=fun k hk=>hw k (by simp only [DataW.weights,Tryz.underlying42];exact hk)
 rw [show Tryz.prog.cellsOf 42=6 by kernel_rfl] at hl
 obtain ⟨c0,c1,c2,c3,c4,c5,rfl⟩:=listN6 hl
 have hxl:xs.length=6:=hxl
 have f0:=hf 0 _ rfl
 rw [List.getElem?_eq_getElem (by omega)] at f0
 have f0:DataW.trod enc Tryz.prog W 0 (fun _=>true) true n 9 [c0]=some xs[0]:=f0
 have g0:Wt 9 xs[0].1:=fun k hk=>hw1 k (DataW.weights_mem_each (j:=0) rfl (by rw [List.getElem?_map,List.getElem?_eq_getElem (by omega)];rfl) k hk)
 obtain ⟨nm,e0,d0,_⟩:=DataW.trod_string Tryz.underlying9 f0
 rw [d0] at g0
 have w0:=str_wt g0
 simp only [List.cons.injEq,and_true] at e0
 subst e0
 have f1:=hf 1 _ rfl
 rw [List.getElem?_eq_getElem (by omega)] at f1
 have f1:DataW.trod enc Tryz.prog W 0 (fun _=>true) true n 37 [c1]=some xs[1]:=f1
 have g1:Wt 37 xs[1].1:=fun k hk=>hw1 k (DataW.weights_mem_each (j:=1) rfl (by rw [List.getElem?_map,List.getElem?_eq_getElem (by omega)];rfl) k hk)
 obtain ⟨l1,a1,p1,e1,s1,w1,q1⟩:=rows_open (E:=VarE) (OK:=VarOk) Tryz.underlying37 (sz:=2) (by kernel_rfl) (by omega) (of_decide_eq_true (by kernel_rfl)) var_open f1 g1
 simp only [List.cons.injEq,and_true] at e1
 subst e1
 have f2:=hf 2 _ rfl
 rw [List.getElem?_eq_getElem (by omega)] at f2
 have f2:DataW.trod enc Tryz.prog W 0 (fun _=>true) true n 28 [c2]=some xs[2]:=f2
 have g2:Wt 28 xs[2].1:=fun k hk=>hw1 k (DataW.weights_mem_each (j:=2) rfl (by rw [List.getElem?_map,List.getElem?_eq_getElem (by omega)];rfl) k hk)
 obtain ⟨l2,a2,p2,e2,s2,w2,q2⟩:=txts_open f2 g2
 simp only [List.cons.injEq,and_true] at e2
 subst e2
 have f3:=hf 3 _ rfl
 rw [List.getElem?_eq_getElem (by omega)] at f3
 have f3:DataW.trod enc Tryz.prog W 0 (fun _=>true) true n 38 [c3]=some xs[3]:=f3
 have g3:Wt 38 xs[3].1:=fun k hk=>hw1 k (DataW.weights_mem_each (j:=3) rfl (by rw [List.getElem?_map,List.getElem?_eq_getElem (by omega)];rfl) k hk)
 obtain ⟨l3,a3,p3,e3,s3,w3,q3⟩:=rows_open (E:=RegE) (OK:=RegOk) Tryz.underlying38 (sz:=2) (by kernel_rfl) (by omega) (of_decide_eq_true (by kernel_rfl)) reg_open f3 g3
 simp only [List.cons.injEq,and_true] at e3
 subst e3
 have f4:=hf 4 _ rfl
 rw [List.getElem?_eq_getElem (by omega)] at f4
 have f4:DataW.trod enc Tryz.prog W 0 (fun _=>true) true n 39 [c4]=some xs[4]:=f4
 have g4:Wt 39 xs[4].1:=fun k hk=>hw1 k (DataW.weights_mem_each (j:=4) rfl (by rw [List.getElem?_map,List.getElem?_eq_getElem (by omega)];rfl) k hk)
 obtain ⟨l4,a4,p4,e4,s4,w4,q4⟩:=rows_open (E:=VerE anyB) (OK:=VerOk) Tryz.underlying39 (sz:=8) (by kernel_rfl) (by omega) (of_decide_eq_true (by kernel_rfl)) ver_open f4 g4
 simp only [List.cons.injEq,and_true] at e4
 subst e4
 have f5:=hf 5 _ rfl
 rw [List.getElem?_eq_getElem (by omega)] at f5
 have f5:DataW.trod enc Tryz.prog W 0 (fun _=>true) true n 40 [c5]=some xs[5]:=f5
 have g5:Wt 40 xs[5].1:=fun k hk=>hw1 k (DataW.weights_mem_each (j:=5) rfl (by rw [List.getElem?_map,List.getElem?_eq_getElem (by omega)];rfl) k hk)
 obtain ⟨l5,a5,p5,e5,s5,w5,q5⟩:=rows_open (E:=TrnE anyB) (OK:=TrnOk) Tryz.underlying40 (sz:=8) (by kernel_rfl) (by omega) (of_decide_eq_true (by kernel_rfl)) trn_open f5 g5
 simp only [List.cons.injEq,and_true] at e5
 subst e5
 exact ⟨⟨nm,l1,l2,l3,l4,l5⟩,⟨a1,p1,a2,p2,a3,p3,a4,p4,a5,p5⟩,rfl,⟨s1,s2,s3,s4,s5⟩,⟨w0,w1,fun x hx=>(q1 x hx).nm,w2,q2,w3,fun x hx=>(q3 x hx).nm,fun x hx=>(q3 x hx).own,w4,q4,w5,q5⟩⟩
end Go.Proofs
