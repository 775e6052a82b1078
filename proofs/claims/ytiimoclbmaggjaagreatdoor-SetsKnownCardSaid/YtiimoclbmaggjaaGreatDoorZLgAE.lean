/- Walks: the sets of a model: New, is. -/
import Derived.Test.YtiimoclbmaggjaaGreatDoorZRwM
import Derived.Test.YtiimoclbmaggjaaGreatDoorZLgP
import Derived.Test.YtiimoclbmaggjaaGreatDoorZIxXZ
namespace Go.Proofs
open Go.RowKit Go.Lx Go.Md Go.Shelf Go.BigFrame Go.Rgi
open Lib(hid)
open Go.Proofs.Tryz
set_option maxRecDepth 100000
set_option maxHeartbeats 0
set_option linter.unusedVariables false
theorem zu {w w':World} {base:Nat} {e:TypeId} {size:Nat} {v:Value} {n:Nat} {xs:List Value} (h:w.ownsRow base e size v n xs) (hb:Bl w w'):w'.ownsRow base e size v n xs:=by
 refine ⟨h.1,?_⟩
 rcases h.2 with hn | ⟨g,cap,cur,rfl,hb',hgg,rest⟩
 . exact .inl hn
 . exact .inr ⟨g,cap,cur,rfl,hb',(hb.block g (lt_of_block hgg)).trans hgg,rest⟩
def u8s (l:List Nat):List Value:=l.map fun x:Nat=>.int .u8 (x:Int)
theorem u8s_at (l:List Nat) (j:Nat) (h:j<l.length):(u8s l)[j]? = some (.int .u8 (l[j]:Int)):=by
 simp [u8s,h]
def RowU (w:World) (v:Value) (l:List Nat):Prop:=(∃ a c,v=.slice a 0 c/\l=[])\/∃ b off c,v=.slice (some ⟨b,off,none⟩) l.length c/\l.length<=c/\b<w.heap.size/\∀ j (h:j<l.length),w.cell? ⟨b,off+j,none⟩=some (.int .u8 (l[j]:Int))
theorem RowU.zf {w w':World} {v:Value} {l:List Nat} (h:RowU w v l) (g:Bl w w'):RowU w' v l:=by
 rcases h with h | ⟨b,off,c,e,h1,h2,h3⟩
 . exact .inl h
 . exact .inr ⟨b,off,c,e,h1,Nat.lt_of_lt_of_le h2 g.size,fun j hj=>(g.cell (p:=⟨b,off+j,none⟩) h2).trans (h3 j hj)⟩
theorem RowU.len {w:World} {v:Value} {l:List Nat} (h:RowU w v l):∃ a c,v=.slice a l.length c/\(0<l.length->l.length<=c)/\∀ k (hk:k<l.length),∃ b off,a=some ⟨b,off,none⟩/\b<w.heap.size/\w.cell? ⟨b,off+k,none⟩=some (.int .u8 (l[k]:Int)):=by
 rcases h with ⟨a,c,rfl,rfl⟩ | ⟨b,off,c,rfl,h1,h2,h3⟩
 . exact ⟨a,c,rfl,fun h=>absurd h (by simp),fun k hk=>absurd hk (by simp)⟩
 . exact ⟨_,c,rfl,fun _=>h1,fun k hk=>⟨b,off,rfl,h2,h3 k hk⟩⟩
theorem RowU.own {N:Nat} {w:World} {v:Value} {l:List Nat} (h:w.ownsRow N 5 1 v l.length (u8s l)):RowU w v l:=by
 rcases h.2 with ⟨e,h0⟩ | ⟨g,c,cur,e,_,_,hc,_⟩
 . exact .inl ⟨none,0,e,List.length_eq_zero_iff.1 h0⟩
 . refine .inr ⟨g,0,c,e,hc,(h.lt g (by rw [e];rfl)).2,fun j hj=>?_⟩
   subst e;rw [Nat.zero_add];exact (h.cellAt j (by omega)).trans (u8s_at l j hj)
theorem RowU.fresh (w:World) (l:List Nat) (cs:Array Value) (h:cs.toList=u8s l) (n:Nat) (hn:l.length=n) (b:Nat) (hb:w.heap.size=b):RowU (w.alloc (.cells cs 5)) (.slice (some ⟨b,0,none⟩) n n) l:=by
 subst hn;subst hb;refine .inr ⟨w.heap.size,0,l.length,rfl,Nat.le_refl _,by simp,fun j hj=>?_⟩;rw [Nat.zero_add];refine (zh (zB w (.cells cs 5)) j).trans ?_;rw [<- Array.getElem?_toList,h];exact u8s_at l j hj
def hasN (l:List Nat) (x:Nat):Bool:=l.any fun y=>x == y
theorem hasN_no {l:List Nat} {x:Nat} (h:∀ j (hj:j<l.length),(x == l[j])=false):hasN l x=false:=by
 unfold hasN;rw [List.any_eq_false];intro y hy;obtain ⟨j,hj,rfl⟩:=List.getElem_of_mem hy;rw [h j hj];simp
theorem hasN_yes {l:List Nat} {x j:Nat} (hj:j<l.length) (h:(x == l[j])=true):hasN l x=true:=by
 unfold hasN;rw [List.any_eq_true];exact ⟨_,List.getElem_mem hj,h⟩
def IdxU (l:List Nat) (x:Nat) (w:World) (e:Ending) (w':World):Prop:=∃ i:Int,e=.returned (.int .i64 i)/\decide (0<=i)=hasN l x/\Bl w w'
theorem zdW (l:List Nat) (v:Value) (x:Nat) (w:World) (h:RowU w v l) (hl:l.length<=1000) :
   Calls prog 275 #[v,.int .u8 (x:Int)] w (IdxU l x w):=by
 have HR:=hid (fun (wx:World) (g:Bl w wx)=>(h.zf g).len);obtain ⟨a,c,rfl,hc,_⟩:=h.len;obtain ⟨n,hn⟩:=ex2 l.length;have HN:=hid hn;rw [hn] at hl hc |-;clear h hn;go_enter func275,ntmps275;go_wp2_with fail
 go_loopw [8] (fun i wr=>∃ k:Nat,k<=n/\i=.int .i64 k/\Bl w wr/\∀ j (hj:j<l.length),j<k->(x == l[j])=false) (fun i _=>n - (intOf i).toNat)
 case atStart=>exact ⟨0,by omega,rfl,Below.refl _ _,fun j _ hj=>by omega⟩
 case round =>
  obtain ⟨wo,rfl⟩:=ex1 wr;obtain ⟨k,hk,rfl,hb,hno⟩:=hrel;have HB:=hid hb;have HNo:=hid hno;clear hb hno
  by_cases hlt:k<n
  . have hkl:k<l.length:=by rw [HN.o];exact hlt
    obtain ⟨a',c',e,_,q⟩:=HR.o wo HB.o;obtain ⟨b1,o1,ea,hbl,hcl⟩:=q k hkl;simp only [Value.slice.injEq] at e;obtain ⟨rfl,e',rfl⟩:=e;clear e';subst ea;have hcap:=hc (by omega);have hI:(k:Int)<(n:Int):=by omega
    have hI0:(0:Int)<=(k:Int):=by omega
    have HS:Hid (∀ b,(x == l[k])=b->(b=true->hasN l x=true)/\(b=false->∀ j (hj:j<l.length),j<k+1->(x == l[j])=false)):=fun b hb=>⟨fun ht=>hasN_yes hkl (by rw [hb,ht]),fun hf j hj hjk=>by
      by_cases e:j=k
      . subst e;rw [hb,hf]
      . exact HNo.o j hj (by omega)⟩
    obtain ⟨y,hy⟩:=ex2 (l[k]);rw [hy] at hcl HS;clear q hy hkl
    cases hd:(x == y) with
    | true =>
     have hT:=hid ((HS.o true hd).1 rfl);have hd2:((x:Int) == (y:Int))=true:=by simp at hd |-;omega
     clear HS hd;go_wp2_with fail;go_ret;exact ⟨k,rfl,by rw [hT.o];simp,HB.o⟩
    | false =>
     have hF:=hid ((HS.o false hd).2 rfl);have hd2:((x:Int) == (y:Int))=false:=by simp at hd |-;omega
     clear HS hd;go_wp2_with fail;go_roundw
     case rel=>exact ⟨k+1,by omega,by go_num,HB.o,hF.o⟩
     case measure=>simp [intOf] <;> omega
  . have hA:Hid (hasN l x=false):=hid (hasN_no fun j hj=>HNo.o j hj (by have:=HN.o;omega))
    go_wp2_with fail;go_ret;exact ⟨-1,rfl,by rw [hA.o];rfl,HB.o⟩
theorem za9 (l:List Nat) (v:Value) (x:Nat) (w:World) (h:RowU w v l) (hl:l.length<=1000) :
   Calls prog 266 #[v,.int .u8 (x:Int)] w fun e w'=>e=.returned (.bool (hasN l x))/\Bl w w':=by
 have HI:=hid (zdW l v x w h hl);clear h;go_enter func266,ntmps266;go_wp2_with fail;(with_reducible refine (HI.o).mono ?_);rintro e w2 ⟨i,rfl,hi,hb⟩;have HH:=hid hi;clear hi;go_wp2_with fail;go_ret;exact ⟨by rw [<- HH.o];rfl,hb⟩
def kindsM (m:MdlD):List Nat:=m.zc.map (·.kd)
theorem yR (m:MdlD):(kindsM m).length=m.zc.length:=List.length_map _
def SetAt (B:Nat) (m:MdlD) (SB:Nat) (w:World):Prop:=∃ IB kv,IdxAt B m IB w/\w.cell? ⟨SB,0,none⟩=some (.pointer (some ⟨IB,0,none⟩))/\w.cell? ⟨SB,1,none⟩=some kv/\w.cell? ⟨SB,2,none⟩=some (.int .i64 m.zb.length)/\RowU w kv (kindsM m)/\SB<w.heap.size
theorem SetAt.grown {B:Nat} {m:MdlD} {SB:Nat} {w w':World} (h:SetAt B m SB w) (g:Bl w w'):SetAt B m SB w':=by
 obtain ⟨IB,kv,h1,h2,h3,h4,h5,h6⟩:=h;exact ⟨IB,kv,h1.grown g,(g.cell (p:=⟨SB,0,none⟩) h6).trans h2,(g.cell (p:=⟨SB,1,none⟩) h6).trans h3,(g.cell (p:=⟨SB,2,none⟩) h6).trans h4,h5.zf g,Nat.lt_of_lt_of_le h6 g.size⟩
def ofKd (m:MdlD) (l:List Nat) (v:Int):Bool:=hasV m v && hasN l (kdA m v)
theorem qo {B:Nat} {m:MdlD} {SB:Nat} {w:World} (h:SetAt B m SB w) (v:Int) (kv:Value) (l:List Nat) (hk:RowU w kv l) (hl:l.length<=1000) :
   Calls prog 224 #[.pointer (some ⟨SB,0,none⟩),.int .i64 v,kv] w fun e w'=>e=.returned (.bool (ofKd m l v))/\Bl w w':=by
 obtain ⟨IB,kw,_,c0,c1,c2,hr,hz⟩:=h;obtain ⟨a,c,rfl,hc,q⟩:=hr.len;rw [yR] at c1 hc
 cases hv:hasV m v with
 | false =>
  have hp:ofKd m l v=false:=by unfold ofKd;rw [hv];rfl
  rw [hp];unfold hasV at hv;clear hr q hk hp
  by_cases h1:0<=v
  . have h2:¬ (v<m.zc.length):=by simp [h1] at hv;omega
    clear hv;go_enter func224,ntmps224;go_wp2_with fail;go_ret;exact ⟨rfl,Below.refl _ _⟩
  . clear hv
    go_enter func224,ntmps224;go_wp2_with fail;go_ret;exact ⟨rfl,Below.refl _ _⟩
 | true =>
  obtain ⟨k,rfl,hk2⟩:=zZ hv;obtain ⟨b1,o1,ea,hbl,hcl⟩:=q k (by rw [yR];exact hk2);subst ea;have hp:ofKd m l k=hasN l m.zc[k].kd:=by unfold ofKd;rw [hv,qP hk2];rfl
  have hx:(kindsM m)[k]'(by rw [yR];exact hk2)=m.zc[k].kd:=by simp [kindsM]
  rw [hx] at hcl;rw [hp];obtain ⟨x,hx2⟩:=ex2 (m.zc[k].kd);rw [hx2] at hcl |-;have HC:=hid (za9 l kv x w hk hl);have hcap:=hc (by omega);have h1:(0:Int)<=(k:Int):=by omega
  have h2:(k:Int)<(m.zc.length:Int):=by omega
  clear hr q hk hp hx hx2 hv;go_enter func224,ntmps224;go_wp2_with fail;(with_reducible refine (HC.o).mono ?_);rintro e w2 ⟨rfl,hb⟩;go_wp2_with fail;go_ret;exact ⟨rfl,hb⟩
theorem info_U8:(prog.info? 5).map (fun i=>(i.zero,i.size,i.bytes))=some (some (.int .u8 0),1,1):=by kernel_rfl
structure Sn (m:MdlD) (SB IB k:Nat) (kv:Value) (w wx:World):Prop where
 bel:Below SB w wx
 c0:wx.cell? ⟨SB,0,none⟩=some (.pointer (some ⟨IB,0,none⟩))
 c1:wx.cell? ⟨SB,1,none⟩=some kv
 c2:wx.cell? ⟨SB,2,none⟩=some (.int .i64 m.zb.length)
 f1:wx.frozen? ⟨SB,1,none⟩=false
 own:wx.ownsRow (SB+1) 5 1 kv k (u8s ((kindsM m).take k))
 lt:SB<wx.heap.size
theorem Sn.zf {m:MdlD} {SB IB k:Nat} {kv:Value} {w wx wy:World} (h:Sn m SB IB k kv w wx) (g:Bl wx wy):Sn m SB IB k kv w wy :=
 ⟨h.bel.trans (g.mono (Nat.le_of_lt h.lt)),(g.cell (p:=⟨SB,0,none⟩) h.lt).trans h.c0,(g.cell (p:=⟨SB,1,none⟩) h.lt).trans h.c1,(g.cell (p:=⟨SB,2,none⟩) h.lt).trans h.c2,(g.frozen (p:=⟨SB,1,none⟩) h.lt).trans h.f1,zu h.own g,Nat.lt_of_lt_of_le h.lt g.size⟩
theorem Sn.grow {m:MdlD} {SB IB k:Nat} {kv:Value} {w wx wy:World} (h:Sn m SB IB k kv w wx) (g:wx.grownBy wy kv.ownBlock):wy.cell? ⟨SB,0,none⟩=some (.pointer (some ⟨IB,0,none⟩))/\wy.cell? ⟨SB,1,none⟩=some kv/\wy.cell? ⟨SB,2,none⟩=some (.int .i64 m.zb.length)/\wy.frozen? ⟨SB,1,none⟩=false:=by
 have hb:=g.block SB h.lt fun e=>by have:=(h.own.lt SB e.symm).1;omega
 have hc:∀ i,wy.cell? ⟨SB,i,none⟩=wx.cell? ⟨SB,i,none⟩:=fun i=>World.cell?_of_block (w:=wx) hb;exact ⟨(hc 0).trans h.c0,(hc 1).trans h.c1,(hc 2).trans h.c2,(World.frozen?_of_block (w:=wx) hb).trans h.f1⟩
theorem Sn.push {m:MdlD} {SB IB k cap gg:Nat} {kv:Value} {w wx wy:World} (hk:k<m.zc.length) (h:Sn m SB IB k kv w wx) (hSB:w.heap.size<=SB) (g:wx.grownBy wy kv.ownBlock) (ho:wy.ownsRow (SB+1) 5 1 (.slice (some ⟨gg,0,none⟩) (k+1) cap) (k+1) (u8s ((kindsM m).take k) ++ [.int .u8 (m.zc[k].kd:Int)])) :
   Sn m SB IB (k+1) (.slice (some ⟨gg,0,none⟩) (k+1) cap) w (wy.setCell ⟨SB,1,none⟩ (.slice (some ⟨gg,0,none⟩) (k+1) cap)):=by
 obtain ⟨e0,e1,e2,e3⟩:=h.grow g;have hgg:=(ho.lt gg rfl).1;have hb:Below SB w wy:=h.bel.grown g (Nat.le_of_lt h.lt) fun q hq=>by have:=(h.own.lt q hq).1;omega
 refine ⟨hb.setCell (p:=⟨SB,1,none⟩) (Nat.le_refl _) _,?_,World.cell?_setCell_same _ _ _ e1,?_,?_,?_,?_⟩
 . rw [World.cell?_setCell_other _ _ _ _ (by simp)];exact e0
 . rw [World.cell?_setCell_other _ _ _ _ (by simp)];exact e2
 . rw [World.frozen?_setCell];exact e3
 . have e:u8s ((kindsM m).take (k+1))=u8s ((kindsM m).take k) ++ [.int .u8 (m.zc[k].kd:Int)]:=by
     rw [List.take_succ_eq_append_getElem (by rw [yR];exact hk)]
     simp [u8s,kindsM]
   rw [e];exact ownsRow_setCell_below (a:=⟨SB,1,none⟩) ho (by simp only;omega) _
 . rw [World.size_setCell];exact Nat.lt_of_lt_of_le h.lt g.size
def SetsP (m:MdlD) (w:World) (e:Ending) (w':World):Prop :=
 Bl w w'/\((riM m=(0,0,0)/\∃ SB,e=.returned (.tuple #[.pointer (some ⟨SB,0,none⟩),.int .i64 0])/\SetAt w.heap.size m SB w')\/((riM m).2.2≠0/\e=.returned (.tuple #[.pointer none,.int .i64 (riM m).2.2])))
theorem zi {w a b:World} (h:Bl w a) (g:Bl a b):Bl w b:=h.trans (g.mono h.size)
def fit1 (m:MdlD) (l:List Int):Bool:=l.length == m.zb.length && fitRow m l
def fit2 (m:MdlD) (la ll:List Int):Bool:=fit1 m la && fit1 m ll
theorem zaz {m:MdlD} {l:List Int} {j:Nat} (hj:j<l.length) (h:mayM m (l.getD j (-1)) j=false):fit1 m l=false:=by
 unfold fit1
 cases hf:fitRow m l with
 | false=>simp
 | true=>rw [fit_at hf hj] at h;cases h
theorem zaA {m:MdlD} {l:List Int} (h:¬ l.length=m.zb.length):fit1 m l=false:=by
 unfold fit1;simp [h]
theorem zaB {m:MdlD} {l:List Int} (hl:l.length=m.zb.length) (h:∀ j,j<l.length->mayM m (l.getD j (-1)) j=true):fit1 m l=true:=by
 unfold fit1 fitRow;simp only [hl,beq_self_eq_true,Bool.true_and];rw [List.all_eq_true];intro j hj;exact h j (by rw [hl];exact List.mem_range.1 hj)
theorem zaC (m:MdlD) (r:Int):mayM m (-1) r=true:=by unfold mayM;simp [hasV]
theorem zbG {m:MdlD} (h0:riM m=(0,0,0)) {v r:Int} (hv:v≠-1):mayM m v r=(ofKd m [1,2] v && homeM m v == r):=by
 unfold mayM ofKd
 cases hb:hasV m v with
 | false =>
  simp only [Bool.false_and];rw [if_neg (by decide)];simpa using hv
 | true =>
  obtain ⟨k,rfl,hk⟩:=zN hb;rw [if_pos rfl,Int.toNat_natCast,List.getElem?_eq_getElem hk,qP hk]
  have e:hasN [1,2] m.zc[k].kd=(m.zc[k].kd == 1 || m.zc[k].kd == 2):=by
    unfold hasN;simp
  rw [e];simp only [Bool.true_and]
  cases hd:(m.zc[k].kd == 1 || m.zc[k].kd == 2) with
  | false=>simp
  | true =>
   have:m.zc[k].kd=1\/m.zc[k].kd=2:=by simpa using hd
   have hp:=zaE h0 hk (by omega)
   have:homeM m (k:Int)=m.zc[k].rg:=by
     unfold homeM;rw [hb,if_pos rfl]
     rcases qQ h0 hk with ⟨_,r,hr,e1,e2,_⟩ | ⟨h2,_⟩
     . rw [e1,e2]
     . omega
   rw [this];simp
theorem yx {B:Nat} {m:MdlD} {SB:Nat} {w:World} (h:SetAt B m SB w) (h0:riM m=(0,0,0)) (la ll:List Int) (a1 a2:Option Addr) (c1 c2:Nat) (h1:RowIn w (.slice a1 la.length c1) la) (h2:RowIn w (.slice a2 ll.length c2) ll) (b1:la.length<=140737488355328) (b2:ll.length<=140737488355328) (hvl:m.zc.length<=90000) :
   Calls prog 137 #[.pointer (some ⟨SB,0,none⟩),.agg #[.slice a1 la.length c1,.slice a2 ll.length c2]] w fun e w'=>e=.returned (.bool (fit2 m la ll))/\Bl w w':=by
 have IS:=hid (fun wx (g:Bl w wx) (v:Int)=>(qo (h.grown (zi g (zg wx (.cells #[.int .u8 1,.int .u8 2] 5)))) v (.slice (some ⟨wx.heap.size,0,none⟩) 2 2) [1,2] (RowU.fresh wx [1,2] _ rfl 2 rfl _ rfl) (by decide)).mono (fun e w' q=>(show e=.returned (.bool (ofKd m [1,2] v))/\Bl wx w' from ⟨q.1,zl q.2⟩)));have HA:=hid (fun wx (g:Bl w wx)=>h.grown g);have HH:=hid (fun wx (g:Bl w wx) (IB:Nat) (hi:IdxAt B m IB wx) (k:Nat) (hk:k<100000)=>jT hi (k:Int) (WalkArith.wf_i64 ⟨by omega,by omega⟩));have R1:=hid (fun (wx:World) (g:Bl w wx)=>(h1.zf g).len);have R2:=hid (fun (wx:World) (g:Bl w wx)=>(h2.zf g).len);have hc1:la.length<=c1:=by obtain ⟨a',c',e,h,_⟩:=h1.len;simp only [Value.slice.injEq] at e;rw [e.2.2];exact h
 have hc2:ll.length<=c2:=by obtain ⟨a',c',e,h,_⟩:=h2.len;simp only [Value.slice.injEq] at e;rw [e.2.2];exact h
 have MS:=hid (fun (v r:Int) (hv:v≠-1)=>zbG h0 (r:=r) hv);have F1:=hid (fun (h:fit1 m la=false)=>(show fit2 m la ll=false by unfold fit2;rw [h];rfl));have F2:=hid (fun (h:fit1 m ll=false)=>(show fit2 m la ll=false by unfold fit2;rw [h];simp));have FF:=hid (fun (h:fit1 m la=true) (h':fit1 m ll=true)=>(show fit2 m la ll=true by unfold fit2;rw [h,h'];rfl));obtain ⟨IB,kv,_,s0,s1,s2,_,hz⟩:=h;have HC:=hid (fun wx (g:Bl w wx)=>(show wx.cell? ⟨SB,0,none⟩=some (.pointer (some ⟨IB,0,none⟩))/\wx.cell? ⟨SB,2,none⟩=some (.int .i64 m.zb.length)/\IdxAt B m IB wx from ?_));rotate_left
 . obtain ⟨IB',kv',hi',s0',_⟩:=HA.o wx g
   have e0:=(g.cell (p:=⟨SB,0,none⟩) hz).trans s0;have e2:=(g.cell (p:=⟨SB,2,none⟩) hz).trans s2;rw [e0] at s0';simp only [Option.some.injEq,Value.pointer.injEq,Addr.mk.injEq,and_true] at s0';obtain rfl:=s0';exact ⟨e0,e2,hi'⟩
 have i0:∀ w (v0 v1:Value),(Instr.index 237 (.agg #[v0,v1]) (.int .i64 0)).run prog w=.ok v0 w:=fun _ _ _=>by kernel_rfl
 have i1:∀ w (v0 v1:Value),(Instr.index 237 (.agg #[v0,v1]) (.int .i64 1)).run prog w=.ok v1 w:=fun _ _ _=>by kernel_rfl
 generalize fit2 m la ll=FB at F1 F2 FF |-;clear h0 h1 h2 s0 s1 s2 HA;go_enter func137,ntmps137;go_wp2_with fail
 go_loopw [16] (fun i wr=>(i=.int .i64 0/\Bl w wr)\/(i=.int .i64 1/\Bl w wr/\fit1 m la=true)\/(i=.int .i64 2/\Bl w wr/\fit1 m la=true/\fit1 m ll=true)) (fun i _=>2 - (intOf i).toNat)
 case atStart=>exact .inl ⟨rfl,zg w _⟩
 case round =>
  obtain ⟨wo,rfl⟩:=ex1 wr
  rcases hrel with ⟨rfl,hb⟩ | ⟨rfl,hb,hf1⟩ | ⟨rfl,hb,hf1,hf2⟩
  . have HB:=hid hb
    clear hb
    by_cases hn:la.length=m.zb.length
    . have hd:((la.length:Int) != (m.zb.length:Int))=false:=by simp only [bne_eq_false_iff_eq];omega
      have HFit:=hid (fun hh=>zaB (m:=m) (l:=la) hn hh);obtain ⟨n,hn2⟩:=ex2 la.length;have HN:=hid hn2;obtain ⟨t0,t2,_⟩:=HC.o wo HB.o;rw [hn2] at hd hc1 b1 |-;clear hn hn2;go_wp2_with fail
      go_loopw [28] (fun i wr=>∃ k:Nat,k<=n/\i=.int .i64 k/\Bl w wr/\∀ j,j<k->mayM m (la.getD j (-1)) j=true) (fun i _=>n - (intOf i).toNat)
      case atStart=>exact ⟨0,by omega,rfl,HB.o,fun j hj=>by omega⟩
      case round =>
       obtain ⟨wk,rfl⟩:∃ wo:World,wo=wr:=⟨_,rfl⟩;obtain ⟨k,hk,rfl,hb,hno⟩:=hrel;have HBk:=hid hb;have HNo:=hid hno;clear hb hno t0 t2;obtain ⟨t0,t2,hi⟩:=HC.o wk HBk.o;have HIx:=hid hi;clear hi
       by_cases hlt:k<n
       . have hkl:k<la.length:=by rw [HN.o];exact hlt
         obtain ⟨a',c',e,_,q⟩:=R1.o wk HBk.o;obtain ⟨b1',o1,ea,hbl,hcl⟩:=q k hkl;simp only [Value.slice.injEq] at e;obtain ⟨rfl,e',rfl⟩:=e;clear e';subst ea;have hI:(k:Int)<(n:Int):=by omega
         have hI0:(0:Int)<=(k:Int):=by omega
         have hg:la.getD k (-1)=la[k]'hkl:=by rw [List.getD_eq_getElem?_getD,List.getElem?_eq_getElem hkl];rfl
         have HS:Hid (∀ b,mayM m (la.getD k (-1)) k=b->(b=true->∀ j,j<k+1->mayM m (la.getD j (-1)) j=true)/\(b=false->FB=false)):=fun b hb=>⟨fun ht j hj=>by
           by_cases e:j=k
           . subst e;rw [hb,ht]
           . exact HNo.o j (by omega),fun hf=>F1.o (zaz hkl (by rw [hb,hf]))⟩
         rw [hg] at HS;obtain ⟨y,hy⟩:=ex2 (la[k]'hkl);rw [hy] at hcl HS;clear q hg hy hkl HNo
         by_cases e1:y=-1
         . subst e1
           have hT:=hid ((HS.o true (zaC m _)).1 rfl);clear HS;go_wp2_with fail;go_roundw
           case rel=>exact ⟨k+1,by omega,by go_num,HBk.o,hT.o⟩
           case measure=>simp [intOf] <;> omega
         . have d1:(y != -1)=true:=by simp only [bne_iff_ne,ne_eq];exact e1
           have HM:=hid (MS.o y k e1);have ISk:=hid (IS.o wk HBk.o y)
           cases d2:ofKd m [1,2] y with
           | false =>
            have hF:=hid ((HS.o false (by rw [HM.o,d2];rfl)).2 rfl);rw [d2] at ISk;clear HS HM d2;go_wp2_with fail;(with_reducible refine (ISk.o).mono ?_);rintro e w5 ⟨rfl,g5⟩;have HB5:=hid (zi HBk.o g5);go_wp2_with fail;go_ret;exact ⟨by rw [hF.o];first | done | rfl,HB5.o⟩
           | true =>
            have hy2:hasV m y=true:=by unfold ofKd at d2;rw [Bool.and_eq_true] at d2;exact d2.1
            obtain ⟨u,rfl,hu⟩:=zZ hy2;have HHu:=hid (fun wx g i hi=>HH.o wx g i hi u (by omega));rw [d2] at ISk
            cases d3:(homeM m u == (k:Int)) with
            | false =>
             have hF:=hid ((HS.o false (by rw [HM.o,d2,d3];rfl)).2 rfl);have d4:(homeM m u != (k:Int))=true:=by rw [bne,d3];rfl
             clear HS HM d2 d3 hy2 e1;generalize homeM m u=hm at HHu d4;go_wp2_with fail;(with_reducible refine (ISk.o).mono ?_);rintro e w5 ⟨rfl,g5⟩;have HB5:=hid (zi HBk.o g5);clear t0 t2 g5;obtain ⟨t0,t2,hi⟩:=HC.o w5 HB5.o;have HIx5:=hid hi;clear hi;go_wp2_with fail;(with_reducible refine (HHu.o w5 HB5.o _ HIx5.o).mono ?_);rintro e w6 ⟨rfl,rfl⟩;go_wp2_with fail;go_ret;exact ⟨by rw [hF.o];first | done | rfl,HB5.o⟩
            | true =>
             have hT:=hid ((HS.o true (by rw [HM.o,d2,d3];rfl)).1 rfl);have d4:(homeM m u != (k:Int))=false:=by rw [bne,d3];rfl
             clear HS HM d2 d3 hy2 e1;generalize homeM m u=hm at HHu d4;go_wp2_with fail;(with_reducible refine (ISk.o).mono ?_);rintro e w5 ⟨rfl,g5⟩;have HB5:=hid (zi HBk.o g5);clear t0 t2 g5;obtain ⟨t0,t2,hi⟩:=HC.o w5 HB5.o;have HIx5:=hid hi;clear hi;go_wp2_with fail;(with_reducible refine (HHu.o w5 HB5.o _ HIx5.o).mono ?_);rintro e w6 ⟨rfl,rfl⟩;go_wp2_with fail;go_roundw
             case rel=>exact ⟨k+1,by omega,by go_num,HB5.o,hT.o⟩
             case measure=>simp [intOf] <;> omega
       . have hfit:Hid (fit1 m la=true):=hid (HFit.o fun j hj=>HNo.o j (by have:=HN.o;omega))
         clear HNo HFit;go_wp2_with fail;go_roundw
         case rel=>exact .inr (.inl ⟨rfl,HBk.o,hfit.o⟩)
         case measure=>simp [intOf] <;> omega
    . have hd:((la.length:Int) != (m.zb.length:Int))=true:=by simp only [bne_iff_ne,ne_eq];omega
      have HF:=hid (F1.o (zaA hn));obtain ⟨t0,t2,_⟩:=HC.o wo HB.o;clear hn;go_wp2_with fail;go_ret;exact ⟨by rw [HF.o];first | done | rfl,HB.o⟩
  . have HB:=hid hb
    have HP:=hid hf1;clear hf1;clear hb
    by_cases hn:ll.length=m.zb.length
    . have hd:((ll.length:Int) != (m.zb.length:Int))=false:=by simp only [bne_eq_false_iff_eq];omega
      have HFit:=hid (fun hh=>zaB (m:=m) (l:=ll) hn hh);obtain ⟨n,hn2⟩:=ex2 ll.length;have HN:=hid hn2;obtain ⟨t0,t2,_⟩:=HC.o wo HB.o;rw [hn2] at hd hc2 b2 |-;clear hn hn2;go_wp2_with fail
      go_loopw [28] (fun i wr=>∃ k:Nat,k<=n/\i=.int .i64 k/\Bl w wr/\∀ j,j<k->mayM m (ll.getD j (-1)) j=true) (fun i _=>n - (intOf i).toNat)
      case atStart=>exact ⟨0,by omega,rfl,HB.o,fun j hj=>by omega⟩
      case round =>
       obtain ⟨wk,rfl⟩:∃ wo:World,wo=wr:=⟨_,rfl⟩;obtain ⟨k,hk,rfl,hb,hno⟩:=hrel;have HBk:=hid hb;have HNo:=hid hno;clear hb hno t0 t2;obtain ⟨t0,t2,hi⟩:=HC.o wk HBk.o;have HIx:=hid hi;clear hi
       by_cases hlt:k<n
       . have hkl:k<ll.length:=by rw [HN.o];exact hlt
         obtain ⟨a',c',e,_,q⟩:=R2.o wk HBk.o;obtain ⟨b1',o1,ea,hbl,hcl⟩:=q k hkl;simp only [Value.slice.injEq] at e;obtain ⟨rfl,e',rfl⟩:=e;clear e';subst ea;have hI:(k:Int)<(n:Int):=by omega
         have hI0:(0:Int)<=(k:Int):=by omega
         have hg:ll.getD k (-1)=ll[k]'hkl:=by rw [List.getD_eq_getElem?_getD,List.getElem?_eq_getElem hkl];rfl
         have HS:Hid (∀ b,mayM m (ll.getD k (-1)) k=b->(b=true->∀ j,j<k+1->mayM m (ll.getD j (-1)) j=true)/\(b=false->FB=false)):=fun b hb=>⟨fun ht j hj=>by
           by_cases e:j=k
           . subst e;rw [hb,ht]
           . exact HNo.o j (by omega),fun hf=>F2.o (zaz hkl (by rw [hb,hf]))⟩
         rw [hg] at HS;obtain ⟨y,hy⟩:=ex2 (ll[k]'hkl);rw [hy] at hcl HS;clear q hg hy hkl HNo
         by_cases e1:y=-1
         . subst e1
           have hT:=hid ((HS.o true (zaC m _)).1 rfl);clear HS;go_wp2_with fail;go_roundw
           case rel=>exact ⟨k+1,by omega,by go_num,HBk.o,hT.o⟩
           case measure=>simp [intOf] <;> omega
         . have d1:(y != -1)=true:=by simp only [bne_iff_ne,ne_eq];exact e1
           have HM:=hid (MS.o y k e1);have ISk:=hid (IS.o wk HBk.o y)
           cases d2:ofKd m [1,2] y with
           | false =>
            have hF:=hid ((HS.o false (by rw [HM.o,d2];rfl)).2 rfl);rw [d2] at ISk;clear HS HM d2;go_wp2_with fail;(with_reducible refine (ISk.o).mono ?_);rintro e w5 ⟨rfl,g5⟩;have HB5:=hid (zi HBk.o g5);go_wp2_with fail;go_ret;exact ⟨by rw [hF.o];first | done | rfl,HB5.o⟩
           | true =>
            have hy2:hasV m y=true:=by unfold ofKd at d2;rw [Bool.and_eq_true] at d2;exact d2.1
            obtain ⟨u,rfl,hu⟩:=zZ hy2;have HHu:=hid (fun wx g i hi=>HH.o wx g i hi u (by omega));rw [d2] at ISk
            cases d3:(homeM m u == (k:Int)) with
            | false =>
             have hF:=hid ((HS.o false (by rw [HM.o,d2,d3];rfl)).2 rfl);have d4:(homeM m u != (k:Int))=true:=by rw [bne,d3];rfl
             clear HS HM d2 d3 hy2 e1;generalize homeM m u=hm at HHu d4;go_wp2_with fail;(with_reducible refine (ISk.o).mono ?_);rintro e w5 ⟨rfl,g5⟩;have HB5:=hid (zi HBk.o g5);clear t0 t2 g5;obtain ⟨t0,t2,hi⟩:=HC.o w5 HB5.o;have HIx5:=hid hi;clear hi;go_wp2_with fail;(with_reducible refine (HHu.o w5 HB5.o _ HIx5.o).mono ?_);rintro e w6 ⟨rfl,rfl⟩;go_wp2_with fail;go_ret;exact ⟨by rw [hF.o];first | done | rfl,HB5.o⟩
            | true =>
             have hT:=hid ((HS.o true (by rw [HM.o,d2,d3];rfl)).1 rfl);have d4:(homeM m u != (k:Int))=false:=by rw [bne,d3];rfl
             clear HS HM d2 d3 hy2 e1;generalize homeM m u=hm at HHu d4;go_wp2_with fail;(with_reducible refine (ISk.o).mono ?_);rintro e w5 ⟨rfl,g5⟩;have HB5:=hid (zi HBk.o g5);clear t0 t2 g5;obtain ⟨t0,t2,hi⟩:=HC.o w5 HB5.o;have HIx5:=hid hi;clear hi;go_wp2_with fail;(with_reducible refine (HHu.o w5 HB5.o _ HIx5.o).mono ?_);rintro e w6 ⟨rfl,rfl⟩;go_wp2_with fail;go_roundw
             case rel=>exact ⟨k+1,by omega,by go_num,HB5.o,hT.o⟩
             case measure=>simp [intOf] <;> omega
       . have hfit:Hid (fit1 m ll=true):=hid (HFit.o fun j hj=>HNo.o j (by have:=HN.o;omega))
         clear HNo HFit;go_wp2_with fail;go_roundw
         case rel=>exact .inr (.inr ⟨rfl,HBk.o,HP.o,hfit.o⟩)
         case measure=>simp [intOf] <;> omega
    . have hd:((ll.length:Int) != (m.zb.length:Int))=true:=by simp only [bne_iff_ne,ne_eq];omega
      have HF:=hid (F2.o (zaA hn));obtain ⟨t0,t2,_⟩:=HC.o wo HB.o;clear hn;go_wp2_with fail;go_ret;exact ⟨by rw [HF.o];first | done | rfl,HB.o⟩
  . have HB:=hid hb
    have HF:=hid (FF.o hf1 hf2);clear hb hf1 hf2;go_wp2_with fail;go_ret;exact ⟨by rw [HF.o];first | done | rfl,HB.o⟩
theorem zaD {l:List Int} {r:Nat} (h:r<l.length):atL l (r:Int)=l[r]:=by
 unfold atL;rw [Int.toNat_natCast,List.getD_eq_getElem?_getD,List.getElem?_eq_getElem h];rfl
theorem IdxAt.low' {B C:Nat} {m:MdlD} {IB:Nat} {w:World} (h:IdxAt B m IB w) (hC:C<=B):IdxAt C m IB w:=by
 obtain ⟨W,N1,PB,KB,MO,MP,XB,cp,V,h1,h2,D,hs⟩:=h;exact ⟨W,N1,PB,KB,MO,MP,XB,cp,V,Nat.le_trans hC h1,h2,D,hs⟩
theorem kL {Q:Nat->BP} (m:MdlD) (p:Ph) (w:World) (h:Mod Q w m p) (hm:MdlOk m) (hT:Tab w) (hv:m.zc.length<=512) (hr:m.zb.length<=512) (ht:m.ze.length<=512) :
   Calls prog 53 #[mdV m p] w (SetsP m w):=by
 obtain ⟨iU,hiU,zU0,zU1,zU2⟩:=info_parts info_U8;have HB:=hid (Mb.made h);have NW:=hid (fun wx (g:Mb m p w.heap.size w wx)=>new_any m p wx g.mod hm (hT.next g.bel) hv hr ht);obtain ⟨a1,k1,a2,k2,a3,k3,a4,k4,a5,k5⟩:=p;unfold mdV at NW |-;dsimp only at NW |-;clear h hm hT hr ht;go_enter func53,ntmps53;obtain ⟨x0,x1,x2,x3,x4,x5,_⟩:=HB.o.box;dsimp only at x0 x1 x2 x3 x4 x5;go_wp2_with fail;(with_reducible refine (NW.o _ HB.o).mono ?_);rintro e w2 ⟨g2,(⟨hr,IB,rfl,hi⟩ | ⟨hr,rfl⟩)⟩;rotate_left
 . have HB2:=hid (HB.o.zf g2)
   have hz1:(((riM m).2.2:Int) != 0)=true:=by simp only [bne_iff_ne,ne_eq];omega
   have HR:=hid hr;clear g2 HB x0 x1 x2 x3 x4 x5 NW hr;go_wp2_with fail;refine bodyPost_ret (results_tmp2 rfl _ _ _) rfl ⟨HB2.o.bel,.inr ⟨HR.o,?_⟩⟩
   first | done | rfl
 . have HB2:=hid (HB.o.zf g2)
   have HI2:=hid hi;have HR:=hid hr;have hz2:w.heap.size<w2.heap.size:=HB2.o.box.sl;clear g2 HB x0 x1 x2 x3 x4 x5 NW hr hi;obtain ⟨x0,x1,x2,x3,x4,x5,_⟩:=HB2.o.box;dsimp only at x0 x1 x2 x3 x4 x5;go_wp2_with fail
   have HS0:Hid (Sn m w2.heap.size IB 0 (.slice none 0 0) w2 (w2.alloc (.cells #[.pointer (some ⟨IB,0,none⟩),.slice none 0 0,.int .i64 m.zb.length] 176))):=hid
     ⟨zg _ _,by simp,by simp,by simp,by simp,World.ownsRow_nil _ _ _ _,by simp⟩
   clear x0 x1 x2 x3 x4 x5
   go_loopw [26] (fun i wr=>∃ k:Nat,k<=m.zc.length/\i=.int .i64 k/\∃ kv,Sn m w2.heap.size IB k kv w2 wr) (fun i _=>m.zc.length - (intOf i).toNat)
   case atStart=>exact ⟨0,by omega,rfl,_,HS0.o⟩
   case round =>
    obtain ⟨wo,rfl⟩:=ex1 wr;obtain ⟨k,hk,rfl,kv,hs⟩:=hrel;have HS:=hid hs;have HBo:=hid (HB2.o.zf hs.bel);clear hs HS0
    by_cases hlt:k<m.zc.length
    . have hI:(k:Int)<(m.zc.length:Int):=by omega
      have hI0:(0:Int)<=(k:Int):=by omega
      have HG:=hid (HBo.o.mod.zc.get hlt);have hcap:=HBo.o.mod.zc.cap (by omega);obtain ⟨b2,o2,ea,hb2,dv,hdv,r0,r1,r2,r3,r4,r5,r6,r7⟩:=HG.o;obtain ⟨da,dc,rfl⟩:=hdv.len;obtain ⟨x,hx⟩:∃ x,x=m.zc[k]:=⟨_,rfl⟩;have HX:=hid hx;rw [<- hx] at r0 r1 r2 r3 r4 r5 r6 r7;clear HG hdv hx;obtain ⟨x0,x1,x2,x3,x4,x5,_⟩:=HBo.o.box;dsimp only at x0 x1 x2 x3 x4 x5 ea hcap;subst ea;have HS1:Hid (Sn m w2.heap.size IB k kv w2 (wo.alloc (.cells #[.string x.nm,.int .u8 (x.kd:Int),.int .i64 x.rg,.int .i64 x.ofv,.string x.en,.string x.ex,.slice da x.df.length dc,.string x.sb] 35))):=hid (HS.o.zf (zg wo _));have c9:(wo.alloc (.cells #[.string x.nm,.int .u8 (x.kd:Int),.int .i64 x.rg,.int .i64 x.ofv,.string x.en,.string x.ex,.slice da x.df.length dc,.string x.sb] 35)).cell? ⟨wo.heap.size,1,none⟩=some (.int .u8 (x.kd:Int)):=by simp
      have hz9:wo.heap.size<(wo.alloc (.cells #[.string x.nm,.int .u8 (x.kd:Int),.int .i64 x.rg,.int .i64 x.ofv,.string x.en,.string x.ex,.slice da x.df.length dc,.string x.sb] 35)).heap.size:=by simp
      go_upto_region 8 with fail;generalize wo.alloc (.cells #[.string x.nm,.int .u8 (x.kd:Int),.int .i64 x.rg,.int .i64 x.ofv,.string x.en,.string x.ex,.slice da x.df.length dc,.string x.sb] 35)=W1 at *;have hkv:∀ g,kv.ownBlock=some g->w2.heap.size+1<=g/\g<wo.heap.size:=fun g hg=>HS.o.own.lt g hg;have HKV:=hid hkv;have hzW:w2.heap.size<wo.heap.size:=HS.o.lt;have hSS:∀ W',Bl W1 W'->W'.cell? ⟨w2.heap.size,1,none⟩=some kv/\W'.cell? ⟨wo.heap.size,1,none⟩=some (.int .u8 (x.kd:Int)):=fun W' g=>⟨(HS1.o.zf g).c1,(g.cell (p:=⟨wo.heap.size,1,none⟩) hz9).trans c9⟩;have HSS:=hid hSS
      have hFin:∀ gg cap2 w10,(W1.drew.alloc (.cells #[.int .u8 (x.kd:Int)] 5)).grownBy w10 kv.ownBlock->w10.ownsRow (w2.heap.size+1) 5 1 (.slice (some ⟨gg,0,none⟩) (k+1) cap2) (k+1) (u8s ((kindsM m).take k) ++ [.int .u8 (x.kd:Int)])->(w10.cell? ⟨w2.heap.size,1,none⟩=some kv/\w10.cell? ⟨wo.heap.size,1,none⟩=some (.int .u8 (x.kd:Int)))/\w10.frozen? ⟨w2.heap.size,1,none⟩=false/\Sn m w2.heap.size IB (k+1) (.slice (some ⟨gg,0,none⟩) (k+1) cap2) w2 (w10.setCell ⟨w2.heap.size,1,none⟩ (.slice (some ⟨gg,0,none⟩) (k+1) cap2)):=by
        intro gg cap2 w10 hg ho;have hs2:=HS1.o.zf ((Below.refl W1.heap.size W1).drew.alloc (Nat.le_refl _) (.cells #[.int .u8 (x.kd:Int)] 5));obtain ⟨e0,e1,e2,e3⟩:=hs2.grow hg;have hx9:w10.heap[wo.heap.size]? = (W1.drew.alloc (.cells #[.int .u8 (x.kd:Int)] 5)).heap[wo.heap.size]? := hg.block _ (by simp;omega) fun e=>by have:=HKV.o _ e.symm;omega
        refine ⟨⟨e1,(World.cell?_of_block (w:=W1.drew.alloc (.cells #[.int .u8 (x.kd:Int)] 5)) hx9).trans (((Below.refl W1.heap.size W1).drew.alloc (Nat.le_refl _) _).cell (p:=⟨wo.heap.size,1,none⟩) hz9 |>.trans c9)⟩,e3,?_⟩;have:=hs2.push hlt (Nat.le_refl _) hg (by rw [<- HX.o];exact ho);exact this
      have HFin:=hid hFin;have hB0:Bl W1 W1:=Below.refl _ _;clear hkv hSS hFin c9;refine wp_region_any (by kernel_rfl) ?_;change wpAny _ _ _ _ _ _ _ (World.drew _);refine zz (n:=11) (o:=⟨none,.store 149 (.tmp 40) (.tmp 38),0, "sets.go:42", #[⟨10,.data⟩,⟨8,.data⟩,⟨8,.chain⟩,⟨0,.phase⟩,⟨1,.phase⟩,⟨2,.phase⟩,⟨3,.phase⟩,⟨4,.phase⟩,⟨5,.phase⟩,⟨6,.phase⟩,⟨7,.phase⟩,⟨8,.phase⟩],none⟩) (ops':=_) (by decide) (by kernel_rfl) (by rfl) (by rfl) ?_;refine zz (n:=10) (o:=⟨some 40,.fieldAddr 176 (.tmp 39) 1,0, "sets.go:42", #[⟨9,.data⟩,⟨0,.phase⟩,⟨1,.phase⟩,⟨2,.phase⟩,⟨3,.phase⟩,⟨4,.phase⟩,⟨5,.phase⟩,⟨6,.phase⟩,⟨7,.phase⟩,⟨8,.phase⟩],none⟩) (ops':=_) (by decide) (by kernel_rfl) (by rfl) (by rfl) ?_;refine zz (n:=9) (o:=⟨some 39,.nilCheck (.tmp 30),0, "sets.go:42", #[⟨0,.data⟩,⟨0,.phase⟩,⟨1,.phase⟩,⟨2,.phase⟩,⟨3,.phase⟩,⟨4,.phase⟩,⟨5,.phase⟩,⟨6,.phase⟩,⟨7,.phase⟩,⟨8,.phase⟩],none⟩) (ops':=#[⟨some 30,.move (.tmp 6),77, "sets.go:42", #[],none⟩,⟨some 31,.move (.tmp 6),77, "sets.go:42", #[],none⟩,⟨some 32,.nilCheck (.tmp 31),0, "sets.go:42", #[⟨1,.data⟩],none⟩,⟨some 33,.fieldAddr 176 (.tmp 32) 1,0, "sets.go:42", #[⟨2,.data⟩],none⟩,⟨some 34,.load 149 (.tmp 33),149, "sets.go:42", #[⟨3,.data⟩],none⟩,⟨some 35,.fieldAddr 35 (.tmp 8) 1,0, "sets.go:42", #[],none⟩,⟨some 36,.load 5 (.tmp 35),5, "sets.go:42", #[⟨5,.data⟩],none⟩,⟨some 37,.buildSlice 149 1 #[(0,.tmp 36)],149, "sets.go:42", #[⟨6,.data⟩],none⟩,⟨some 38,.call { callee:=.builtin .append,args:=#[.tmp 34,.tmp 37],argTypes:=#[149,149] },149, "sets.go:42", #[⟨4,.data⟩,⟨7,.data⟩],none⟩]) (by decide) (by kernel_rfl) (by rfl) (by rfl) ?_;refine hld HSS.o (hB0.drew) (fun hHeld=>?_);refine tk 0 rfl ?_;refine tk 1 rfl ?_;refine tk 2 rfl ?_;refine tk 3 rfl ?_;refine tk 4 rfl ?_;refine tk 5 rfl ?_;refine tk 6 rfl ?_;refine rd1 7 (fun K hK=>?_);(go_simp);refine nx hK ?_ (fun hH1=>?_);(first | exact HSS.o _ hB0.drew | exact HSS.o _ (hB0.drew.alloc (Nat.le_refl _) _) | exact s10);clear hK K hHeld;refine rd1 8 (fun K hK=>?_)
      ((refine step_append_lies _ (by rfl) _ _ _ (by rfl) (w2.heap.size+1) 5 iU _ 1 1 underlying149 hiU zU0 zU1 zU2 rfl (by omega) _ k (u8s ((kindsM m).take k)) (by rfl) ((HS1.o.own.drew).alloc _) ⟨W1.heap.size,0,none⟩ 1 1 [.int .u8 (x.kd:Int)] (by rfl) (by rfl) (World.news_of_block (cs:=#[.int .u8 (x.kd:Int)]) (t:=5) (fr:=(0,0)) (zB W1.drew _)) (by simp [Value.oneCell']) (by omega) (by unfold maxLen;omega) (by omega) (by simp;omega) (W1.heap.size+1) (by simp) ?_;intro gg cap2 w10 hown10 hgrow10 hat10 hlt10;obtain ⟨s10,f10,hfin⟩:=HFin.o gg cap2 w10 hgrow10 hown10;have s100:=s10.1))
      refine nx hK ?_ (fun hH2=>?_);(first | exact HSS.o _ hB0.drew | exact HSS.o _ (hB0.drew.alloc (Nat.le_refl _) _) | exact s10);clear hK K hH1;refine dn ?_;rotate_left
      all_goals
        refine zI fun K hK=>?_;go_simp;refine hK _ _ ?_;clear hK K;refine zI fun K hK=>?_;go_simp;refine hK _ _ ?_;clear hK K;refine zI fun K hK=>?_;go_simp;refine hK _ _ ?_;clear hK K;go_wp2_with fail;go_roundw
        case rel=>exact ⟨k+1,by omega,by go_num,_,hfin⟩
        case measure=>simp [intOf] <;> omega
    . obtain rfl:k=m.zc.length:=by omega
      have HF:Hid (SetAt w.heap.size m w2.heap.size wo):=hid
        ⟨IB,kv,(IdxAt.low' HI2.o (by simp)).grown HS.o.bel,HS.o.c0,HS.o.c1,HS.o.c2,RowU.own (N:=w2.heap.size+1) (by have:=HS.o.own;rw [List.take_of_length_le (by rw [yR];exact Nat.le_refl _)] at this;rw [yR];exact this),HS.o.lt⟩
      go_wp2_with fail;refine bodyPost_ret (results_tmp2 rfl _ _ _) rfl ⟨HBo.o.bel,.inl ⟨HR.o,w2.heap.size,?_,HF.o⟩⟩
      first | done | rfl
structure Kx (m:MdlD) (p:Ph) (k B3 B5:Nat) (w:World):Prop where
 mod:Mod anyM w m p
 box:Box w B3 (.string m.nm) (.slice p.a1 m.vars.length p.c1) (.slice p.a2 m.za.length p.c2) (.slice p.a3 m.zb.length p.c3) (.slice p.a4 m.zc.length p.c4) (.slice p.a5 m.ze.length p.c5)
 kc:w.cell? ⟨B5,0,none⟩=some (.int .u8 (k:Int))
 lt:B5<w.heap.size
theorem Kx.zf {m:MdlD} {p:Ph} {k B3 B5:Nat} {w w':World} (h:Kx m p k B3 B5 w) (g:Bl w w'):Kx m p k B3 B5 w' :=
 ⟨h.mod.zf g,h.box.zf g h.box.sl,(g.cell (p:=⟨B5,0,none⟩) h.lt).trans h.kc,Nat.lt_of_lt_of_le h.lt g.size⟩
structure Mc (m:MdlD) (p:Ph) (la ll:List Int) (a1 a2:Option Addr) (c1 c2:Nat) (w wx:World):Prop where
 mb:Mb m p w.heap.size w wx
 d0:wx.cell? ⟨w.heap.size+1,0,none⟩=some (.slice a1 la.length c1)
 d1:wx.cell? ⟨w.heap.size+1,1,none⟩=some (.slice a2 ll.length c2)
 sz:w.heap.size+1<wx.heap.size
 r1:RowIn wx (.slice a1 la.length c1) la
 r2:RowIn wx (.slice a2 ll.length c2) ll
theorem Mc.zf {m:MdlD} {p:Ph} {la ll:List Int} {a1 a2:Option Addr} {c1 c2:Nat} {w wx wy:World} (h:Mc m p la ll a1 a2 c1 c2 w wx) (g:Bl wx wy):Mc m p la ll a1 a2 c1 c2 w wy :=
 ⟨h.mb.zf g,(g.cell (p:=⟨w.heap.size+1,0,none⟩) h.sz).trans h.d0,(g.cell (p:=⟨w.heap.size+1,1,none⟩) h.sz).trans h.d1,Nat.lt_of_lt_of_le h.sz g.size,h.r1.zf g,h.r2.zf g⟩
theorem Mc.made {Q:Nat->BP} {m:MdlD} {p:Ph} {la ll:List Int} {a1 a2:Option Addr} {c1 c2:Nat} {w:World} (h:Mod Q w m p) (h1:RowIn w (.slice a1 la.length c1) la) (h2:RowIn w (.slice a2 ll.length c2) ll) :
   Mc m p la ll a1 a2 c1 c2 w ((w.alloc (.cells #[.string m.nm,.slice p.a1 m.vars.length p.c1,.slice p.a2 m.za.length p.c2,.slice p.a3 m.zb.length p.c3,.slice p.a4 m.zc.length p.c4,.slice p.a5 m.ze.length p.c5] 28)).alloc (.cells #[.slice a1 la.length c1,.slice a2 ll.length c2] 74)) :=
 ⟨(Mb.made h).zf (zg _ _),by simp,by simp,by simp,h1.zf (zq w _ _),h2.zf (zq w _ _)⟩
end Go.Proofs
