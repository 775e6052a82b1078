/- Walks: the sets of a model: New, is. -/
import Derived.Test.YtiimoclbmaggjaaGreatDoorLRwM
import Derived.Test.YtiimoclbmaggjaaGreatDoorLLgP
import Derived.Test.YtiimoclbmaggjaaGreatDoorLIxXZ
import Derived.OneCell
namespace Go.Proofs
open Go.RowKit Go.Lx Go.Md Go.Shelf Go.BigFrame Go.Rgi
set_option linter.unusedVariables false
theorem own_below {w w':World} {base:Nat} {e:TypeId} {size:Nat} {v:Value} {n:Nat} {xs:List Value} (h:w.ownsRow base e size v n xs) (hb:Below w.heap.size w w'):w'.ownsRow base e size v n xs:=by
 refine ⟨h.1,?_⟩
 rcases h.2 with hn | ⟨g,cap,cur,rfl,hb',hgg,rest⟩
 · exact .inl hn
 · exact .inr ⟨g,cap,cur,rfl,hb',(hb.block g (lt_of_block hgg)).trans hgg,rest⟩
def u8s (l:List Nat):List Value:=l.map fun x:Nat=>.int .u8 (x:Int)
theorem u8s_at (l:List Nat) (j:Nat) (h:j<l.length):(u8s l)[j]? = some (.int .u8 (l[j]:Int)):=by
 simp [u8s,h]
def RowU (w:World) (v:Value) (l:List Nat):Prop:=(∃ a c,v=.slice a 0 c∧l=[])∨∃ b off c,v=.slice (some ⟨b,off,none⟩) l.length c∧l.length≤c∧b<w.heap.size∧∀ j (h:j<l.length),w.cell? ⟨b,off+j,none⟩=some (.int .u8 (l[j]:Int))
theorem RowU.below {w w':World} {v:Value} {l:List Nat} (h:RowU w v l) (g:Below w.heap.size w w'):RowU w' v l:=by
 rcases h with h | ⟨b,off,c,e,h1,h2,h3⟩
 · exact .inl h
 · exact .inr ⟨b,off,c,e,h1,Nat.lt_of_lt_of_le h2 g.size,fun j hj=>(g.cell (p:=⟨b,off+j,none⟩) h2).trans (h3 j hj)⟩
theorem RowU.len {w:World} {v:Value} {l:List Nat} (h:RowU w v l):∃ a c,v=.slice a l.length c∧(0<l.length→l.length≤c)∧∀ k (hk:k<l.length),∃ b off,a=some ⟨b,off,none⟩∧b<w.heap.size∧w.cell? ⟨b,off+k,none⟩=some (.int .u8 (l[k]:Int)):=by
 rcases h with ⟨a,c,rfl,rfl⟩ | ⟨b,off,c,rfl,h1,h2,h3⟩
 · exact ⟨a,c,rfl,fun h=>absurd h (by simp),fun k hk=>absurd hk (by simp)⟩
 · exact ⟨_,c,rfl,fun _=>h1,fun k hk=>⟨b,off,rfl,h2,h3 k hk⟩⟩
theorem RowU.own {N:Nat} {w:World} {v:Value} {l:List Nat} (h:w.ownsRow N 5 1 v l.length (u8s l)):RowU w v l:=by
 rcases h.2 with ⟨e,h0⟩ | ⟨g,c,cur,e,_,_,hc,_⟩
 · exact .inl ⟨none,0,e,List.length_eq_zero_iff.1 h0⟩
 · refine .inr ⟨g,0,c,e,hc,(h.lt g (by rw [e];rfl)).2,fun j hj=>?_⟩
   subst e
   rw [Nat.zero_add]
   exact (h.cellAt j (by omega)).trans (u8s_at l j hj)
theorem RowU.fresh (w:World) (l:List Nat) (cs:Array Value) (h:cs.toList=u8s l) (n:Nat) (hn:l.length=n) (b:Nat) (hb:w.heap.size=b):RowU (w.alloc (.cells cs 5)) (.slice (some ⟨b,0,none⟩) n n) l:=by
 subst hn;subst hb
 refine .inr ⟨w.heap.size,0,l.length,rfl,Nat.le_refl _,by simp,fun j hj=>?_⟩
 rw [Nat.zero_add]
 refine (cell_blk (alloc1_at w (.cells cs 5)) j).trans ?_
 rw [← Array.getElem?_toList,h];exact u8s_at l j hj
def hasN (l:List Nat) (x:Nat):Bool:=l.any fun y=>x == y
theorem hasN_no {l:List Nat} {x:Nat} (h:∀ j (hj:j<l.length),(x == l[j])=false):hasN l x=false:=by
 unfold hasN;rw [List.any_eq_false];intro y hy
 obtain ⟨j,hj,rfl⟩:=List.getElem_of_mem hy
 rw [h j hj];simp
theorem hasN_yes {l:List Nat} {x j:Nat} (hj:j<l.length) (h:(x == l[j])=true):hasN l x=true:=by
 unfold hasN;rw [List.any_eq_true];exact ⟨_,List.getElem_mem hj,h⟩
def IdxU (l:List Nat) (x:Nat) (w:World) (e:Ending) (w':World):Prop:=∃ i:Int,e=.returned (.int .i64 i)∧decide (0≤i)=hasN l x∧Below w.heap.size w w'
set_option maxHeartbeats 1000000 in
theorem indexU_any (l:List Nat) (v:Value) (x:Nat) (w:World) (h:RowU w v l) (hl:l.length≤1000) :
   Calls Tryz.prog 275 #[v,.int .u8 (x:Int)] w (IdxU l x w):=by
 have HR:=Lib.hid (fun (wx:World) (g:Below w.heap.size w wx)=>(h.below g).len)
 obtain ⟨a,c,rfl,hc,_⟩:=h.len
 obtain ⟨n,hn⟩:∃ n,l.length=n:=⟨_,rfl⟩
 have HN:=Lib.hid hn
 rw [hn] at hl hc ⊢
 clear h hn
 go_enter Tryz.func275,Tryz.ntmps275
 go_wp2_with fail
 go_loopw [8] (fun i wr=>∃ k:Nat,k≤n∧i=.int .i64 k∧Below w.heap.size w wr∧∀ j (hj:j<l.length),j<k→(x == l[j])=false) (fun i _=>n - (intOf i).toNat)
 case atStart=>exact ⟨0,by omega,rfl,Below.refl _ _,fun j _ hj=>by omega⟩
 case round =>
  obtain ⟨wo,rfl⟩:∃ wo:World,wo=wr:=⟨_,rfl⟩
  obtain ⟨k,hk,rfl,hb,hno⟩:=hrel
  have HB:=Lib.hid hb
  have HNo:=Lib.hid hno
  clear hb hno
  by_cases hlt:k<n
  · have hkl:k<l.length:=by rw [HN.out];exact hlt
    obtain ⟨a',c',e,_,q⟩:=HR.out wo HB.out
    obtain ⟨b1,o1,ea,hbl,hcl⟩:=q k hkl
    simp only [Value.slice.injEq] at e
    obtain ⟨rfl,e',rfl⟩:=e
    clear e'
    subst ea
    have hcap:=hc (by omega)
    have hI:(k:Int)<(n:Int):=by omega
    have hI0:(0:Int)≤(k:Int):=by omega
    have HS:Hid (∀ b,(x == l[k])=b→(b=true→hasN l x=true)∧(b=false→∀ j (hj:j<l.length),j<k+1→(x == l[j])=false)):=fun b hb=>⟨fun ht=>hasN_yes hkl (by rw [hb,ht]),fun hf j hj hjk=>by
      by_cases e:j=k
      · subst e;rw [hb,hf]
      · exact HNo.out j hj (by omega)⟩
    obtain ⟨y,hy⟩:∃ y,l[k]=y:=⟨_,rfl⟩
    rw [hy] at hcl HS
    clear q hy hkl
    cases hd:(x == y) with
    | true =>
     have hT:=Lib.hid ((HS.out true hd).1 rfl)
     have hd2:((x:Int) == (y:Int))=true:=by simp at hd ⊢;omega
     clear HS hd
     go_wp2_with fail
     go_ret
     exact ⟨k,rfl,by rw [hT.out];simp,HB.out⟩
    | false =>
     have hF:=Lib.hid ((HS.out false hd).2 rfl)
     have hd2:((x:Int) == (y:Int))=false:=by simp at hd ⊢;omega
     clear HS hd
     go_wp2_with fail
     go_roundw
     case rel=>exact ⟨k+1,by omega,by go_num,HB.out,hF.out⟩
     case measure=>simp [intOf] <;> omega
  · have hA:Hid (hasN l x=false):=Lib.hid (hasN_no fun j hj=>HNo.out j hj (by have:=HN.out;omega))
    go_wp2_with fail
    go_ret
    exact ⟨-1,rfl,by rw [hA.out];rfl,HB.out⟩
theorem containsU_any (l:List Nat) (v:Value) (x:Nat) (w:World) (h:RowU w v l) (hl:l.length≤1000) :
   Calls Tryz.prog 266 #[v,.int .u8 (x:Int)] w fun e w'=>e=.returned (.bool (hasN l x))∧Below w.heap.size w w':=by
 have HI:=Lib.hid (indexU_any l v x w h hl)
 clear h
 go_enter Tryz.func266,Tryz.ntmps266
 go_wp2_with fail
 (with_reducible refine (HI.out).mono ?_)
 rintro e w2 ⟨i,rfl,hi,hb⟩
 have HH:=Lib.hid hi
 clear hi
 go_wp2_with fail
 go_ret
 exact ⟨by rw [← HH.out];rfl,hb⟩
def kindsM (m:MdlD):List Nat:=m.vers.map (·.kd)
theorem kindsM_len (m:MdlD):(kindsM m).length=m.vers.length:=List.length_map _
def SetAt (B:Nat) (m:MdlD) (SB:Nat) (w:World):Prop:=∃ IB kv,IdxAt B m IB w∧w.cell? ⟨SB,0,none⟩=some (.pointer (some ⟨IB,0,none⟩))∧w.cell? ⟨SB,1,none⟩=some kv∧w.cell? ⟨SB,2,none⟩=some (.int .i64 m.regs.length)∧RowU w kv (kindsM m)∧SB<w.heap.size
theorem SetAt.grown {B:Nat} {m:MdlD} {SB:Nat} {w w':World} (h:SetAt B m SB w) (g:Below w.heap.size w w'):SetAt B m SB w':=by
 obtain ⟨IB,kv,h1,h2,h3,h4,h5,h6⟩:=h
 exact ⟨IB,kv,h1.grown g,(g.cell (p:=⟨SB,0,none⟩) h6).trans h2,(g.cell (p:=⟨SB,1,none⟩) h6).trans h3,(g.cell (p:=⟨SB,2,none⟩) h6).trans h4,h5.below g,Nat.lt_of_lt_of_le h6 g.size⟩
def ofKd (m:MdlD) (l:List Nat) (v:Int):Bool:=hasV m v && hasN l (kdA m v)
set_option maxHeartbeats 1000000 in
theorem setsIs_any {B:Nat} {m:MdlD} {SB:Nat} {w:World} (h:SetAt B m SB w) (v:Int) (kv:Value) (l:List Nat) (hk:RowU w kv l) (hl:l.length≤1000) :
   Calls Tryz.prog 224 #[.pointer (some ⟨SB,0,none⟩),.int .i64 v,kv] w fun e w'=>e=.returned (.bool (ofKd m l v))∧Below w.heap.size w w':=by
 obtain ⟨IB,kw,_,c0,c1,c2,hr,hz⟩:=h
 obtain ⟨a,c,rfl,hc,q⟩:=hr.len
 rw [kindsM_len] at c1 hc
 cases hv:hasV m v with
 | false =>
  have hp:ofKd m l v=false:=by unfold ofKd;rw [hv];rfl
  rw [hp]
  unfold hasV at hv
  clear hr q hk hp
  by_cases h1:0≤v
  · have h2:¬ (v<m.vers.length):=by simp [h1] at hv;omega
    clear hv
    go_enter Tryz.func224,Tryz.ntmps224
    go_wp2_with fail
    go_ret
    exact ⟨rfl,Below.refl _ _⟩
  · clear hv
    go_enter Tryz.func224,Tryz.ntmps224
    go_wp2_with fail
    go_ret
    exact ⟨rfl,Below.refl _ _⟩
 | true =>
  obtain ⟨k,rfl,hk2⟩:=hasV_yes hv
  obtain ⟨b1,o1,ea,hbl,hcl⟩:=q k (by rw [kindsM_len];exact hk2)
  subst ea
  have hp:ofKd m l k=hasN l m.vers[k].kd:=by unfold ofKd;rw [hv,kdA_at hk2];rfl
  have hx:(kindsM m)[k]'(by rw [kindsM_len];exact hk2)=m.vers[k].kd:=by simp [kindsM]
  rw [hx] at hcl
  rw [hp]
  obtain ⟨x,hx2⟩:∃ x,m.vers[k].kd=x:=⟨_,rfl⟩
  rw [hx2] at hcl ⊢
  have HC:=Lib.hid (containsU_any l kv x w hk hl)
  have hcap:=hc (by omega)
  have h1:(0:Int)≤(k:Int):=by omega
  have h2:(k:Int)<(m.vers.length:Int):=by omega
  clear hr q hk hp hx hx2 hv
  go_enter Tryz.func224,Tryz.ntmps224
  go_wp2_with fail
  (with_reducible refine (HC.out).mono ?_)
  rintro e w2 ⟨rfl,hb⟩
  go_wp2_with fail
  go_ret
  exact ⟨rfl,hb⟩
theorem info_U8:(Tryz.prog.info? 5).map (fun i=>(i.zero,i.size,i.bytes))=some (some (.int .u8 0),1,1):=by kernel_rfl
structure Sn (m:MdlD) (SB IB k:Nat) (kv:Value) (w wx:World):Prop where
 bel:Below SB w wx
 c0:wx.cell? ⟨SB,0,none⟩=some (.pointer (some ⟨IB,0,none⟩))
 c1:wx.cell? ⟨SB,1,none⟩=some kv
 c2:wx.cell? ⟨SB,2,none⟩=some (.int .i64 m.regs.length)
 f1:wx.frozen? ⟨SB,1,none⟩=false
 own:wx.ownsRow (SB+1) 5 1 kv k (u8s ((kindsM m).take k))
 lt:SB<wx.heap.size
theorem Sn.below {m:MdlD} {SB IB k:Nat} {kv:Value} {w wx wy:World} (h:Sn m SB IB k kv w wx) (g:Below wx.heap.size wx wy):Sn m SB IB k kv w wy :=
 ⟨h.bel.trans (g.mono (Nat.le_of_lt h.lt)),(g.cell (p:=⟨SB,0,none⟩) h.lt).trans h.c0,(g.cell (p:=⟨SB,1,none⟩) h.lt).trans h.c1,(g.cell (p:=⟨SB,2,none⟩) h.lt).trans h.c2,(g.frozen (p:=⟨SB,1,none⟩) h.lt).trans h.f1,own_below h.own g,Nat.lt_of_lt_of_le h.lt g.size⟩
theorem Sn.grow {m:MdlD} {SB IB k:Nat} {kv:Value} {w wx wy:World} (h:Sn m SB IB k kv w wx) (g:wx.grownBy wy kv.ownBlock):wy.cell? ⟨SB,0,none⟩=some (.pointer (some ⟨IB,0,none⟩))∧wy.cell? ⟨SB,1,none⟩=some kv∧wy.cell? ⟨SB,2,none⟩=some (.int .i64 m.regs.length)∧wy.frozen? ⟨SB,1,none⟩=false:=by
 have hb:=g.block SB h.lt fun e=>by have:=(h.own.lt SB e.symm).1;omega
 have hc:∀ i,wy.cell? ⟨SB,i,none⟩=wx.cell? ⟨SB,i,none⟩:=fun i=>World.cell?_of_block (w:=wx) hb
 exact ⟨(hc 0).trans h.c0,(hc 1).trans h.c1,(hc 2).trans h.c2,(World.frozen?_of_block (w:=wx) hb).trans h.f1⟩
theorem Sn.push {m:MdlD} {SB IB k cap gg:Nat} {kv:Value} {w wx wy:World} (hk:k<m.vers.length) (h:Sn m SB IB k kv w wx) (hSB:w.heap.size≤SB) (g:wx.grownBy wy kv.ownBlock) (ho:wy.ownsRow (SB+1) 5 1 (.slice (some ⟨gg,0,none⟩) (k+1) cap) (k+1) (u8s ((kindsM m).take k) ++ [.int .u8 (m.vers[k].kd:Int)])) :
   Sn m SB IB (k+1) (.slice (some ⟨gg,0,none⟩) (k+1) cap) w (wy.setCell ⟨SB,1,none⟩ (.slice (some ⟨gg,0,none⟩) (k+1) cap)):=by
 obtain ⟨e0,e1,e2,e3⟩:=h.grow g
 have hgg:=(ho.lt gg rfl).1
 have hb:Below SB w wy:=h.bel.grown g (Nat.le_of_lt h.lt) fun q hq=>by have:=(h.own.lt q hq).1;omega
 refine ⟨hb.setCell (p:=⟨SB,1,none⟩) (Nat.le_refl _) _,?_,World.cell?_setCell_same _ _ _ e1,?_,?_,?_,?_⟩
 · rw [World.cell?_setCell_other _ _ _ _ (by simp)];exact e0
 · rw [World.cell?_setCell_other _ _ _ _ (by simp)];exact e2
 · rw [World.frozen?_setCell];exact e3
 · have e:u8s ((kindsM m).take (k+1))=u8s ((kindsM m).take k) ++ [.int .u8 (m.vers[k].kd:Int)]:=by
     rw [List.take_succ_eq_append_getElem (by rw [kindsM_len];exact hk)]
     simp [u8s,kindsM]
   rw [e]
   exact ownsRow_setCell_below (a:=⟨SB,1,none⟩) ho (by simp only;omega) _
 · rw [World.size_setCell];exact Nat.lt_of_lt_of_le h.lt g.size
def SetsP (m:MdlD) (w:World) (e:Ending) (w':World):Prop :=
 Below w.heap.size w w'∧((riM m=(0,0,0)∧∃ SB,e=.returned (.tuple #[.pointer (some ⟨SB,0,none⟩),.int .i64 0])∧SetAt w.heap.size m SB w')∨((riM m).2.2≠0∧e=.returned (.tuple #[.pointer none,.int .i64 (riM m).2.2])))
theorem IdxAt.low' {B C:Nat} {m:MdlD} {IB:Nat} {w:World} (h:IdxAt B m IB w) (hC:C≤B):IdxAt C m IB w:=by
 obtain ⟨W,N1,PB,KB,MO,MP,XB,cp,V,h1,h2,D,hs⟩:=h
 exact ⟨W,N1,PB,KB,MO,MP,XB,cp,V,Nat.le_trans hC h1,h2,D,hs⟩
set_option maxRecDepth 100000 in
set_option maxHeartbeats 8000000 in
theorem setsNew_any {Q:Nat→BP} (m:MdlD) (p:Ph) (w:World) (h:Mod Q w m p) (hm:MdlOk m) (hT:Tab w) (hv:m.vers.length≤512) (hr:m.regs.length≤512) (ht:m.trns.length≤512) :
   Calls Tryz.prog 53 #[mdV m p] w (SetsP m w):=by
 obtain ⟨iU,hiU,zU0,zU1,zU2⟩:=info_parts info_U8
 have HB:=Lib.hid (Mb.made h)
 have NW:=Lib.hid (fun wx (g:Mb m p w.heap.size w wx)=>new_any m p wx g.mod hm (hT.next g.bel) hv hr ht)
 obtain ⟨a1,k1,a2,k2,a3,k3,a4,k4,a5,k5⟩:=p
 unfold mdV at NW ⊢
 dsimp only at NW ⊢
 clear h hm hT hr ht
 go_enter Tryz.func53,Tryz.ntmps53
 obtain ⟨x0,x1,x2,x3,x4,x5,_⟩:=HB.out.box
 dsimp only at x0 x1 x2 x3 x4 x5
 go_wp2_with fail
 (with_reducible refine (NW.out _ HB.out).mono ?_)
 rintro e w2 ⟨g2,(⟨hr,IB,rfl,hi⟩ | ⟨hr,rfl⟩)⟩
 rotate_left
 · have HB2:=Lib.hid (HB.out.below g2)
   have hz1:(((riM m).2.2:Int) != 0)=true:=by simp only [bne_iff_ne,ne_eq];omega
   have HR:=Lib.hid hr
   clear g2 HB x0 x1 x2 x3 x4 x5 NW hr
   go_wp2_with fail
   refine bodyPost_ret (results_tmp2 rfl _ _ _) rfl ⟨HB2.out.bel,.inr ⟨HR.out,?_⟩⟩
   first | done | rfl
 · have HB2:=Lib.hid (HB.out.below g2)
   have HI2:=Lib.hid hi
   have HR:=Lib.hid hr
   have hz2:w.heap.size<w2.heap.size:=HB2.out.box.sl
   clear g2 HB x0 x1 x2 x3 x4 x5 NW hr hi
   obtain ⟨x0,x1,x2,x3,x4,x5,_⟩:=HB2.out.box
   dsimp only at x0 x1 x2 x3 x4 x5
   go_wp2_with fail
   have HS0:Hid (Sn m w2.heap.size IB 0 (.slice none 0 0) w2 (w2.alloc (.cells #[.pointer (some ⟨IB,0,none⟩),.slice none 0 0,.int .i64 m.regs.length] 176))):=Lib.hid
     ⟨below_al1 _ _,by simp,by simp,by simp,by simp,World.ownsRow_nil _ _ _ _,by simp⟩
   clear x0 x1 x2 x3 x4 x5
   go_loopw [26] (fun i wr=>∃ k:Nat,k≤m.vers.length∧i=.int .i64 k∧∃ kv,Sn m w2.heap.size IB k kv w2 wr) (fun i _=>m.vers.length - (intOf i).toNat)
   case atStart=>exact ⟨0,by omega,rfl,_,HS0.out⟩
   case round =>
    obtain ⟨wo,rfl⟩:∃ wo:World,wo=wr:=⟨_,rfl⟩
    obtain ⟨k,hk,rfl,kv,hs⟩:=hrel
    have HS:=Lib.hid hs
    have HBo:=Lib.hid (HB2.out.below hs.bel)
    clear hs HS0
    by_cases hlt:k<m.vers.length
    · have hI:(k:Int)<(m.vers.length:Int):=by omega
      have hI0:(0:Int)≤(k:Int):=by omega
      have HG:=Lib.hid (HBo.out.mod.vers.get hlt)
      have hcap:=HBo.out.mod.vers.cap (by omega)
      obtain ⟨b2,o2,ea,hb2,dv,hdv,r0,r1,r2,r3,r4,r5,r6,r7⟩:=HG.out
      obtain ⟨da,dc,rfl⟩:=hdv.len
      obtain ⟨x,hx⟩:∃ x,x=m.vers[k]:=⟨_,rfl⟩
      have HX:=Lib.hid hx
      rw [← hx] at r0 r1 r2 r3 r4 r5 r6 r7
      clear HG hdv hx
      obtain ⟨x0,x1,x2,x3,x4,x5,_⟩:=HBo.out.box
      dsimp only at x0 x1 x2 x3 x4 x5 ea hcap
      subst ea
      have HS1:Hid (Sn m w2.heap.size IB k kv w2 (wo.alloc (.cells #[.string x.nm,.int .u8 (x.kd:Int),.int .i64 x.rg,.int .i64 x.ofv,.string x.en,.string x.ex,.slice da x.df.length dc,.string x.sb] 35))):=Lib.hid (HS.out.below (below_al1 wo _))
      have c9:(wo.alloc (.cells #[.string x.nm,.int .u8 (x.kd:Int),.int .i64 x.rg,.int .i64 x.ofv,.string x.en,.string x.ex,.slice da x.df.length dc,.string x.sb] 35)).cell? ⟨wo.heap.size,1,none⟩=some (.int .u8 (x.kd:Int)):=by simp
      have hz9:wo.heap.size<(wo.alloc (.cells #[.string x.nm,.int .u8 (x.kd:Int),.int .i64 x.rg,.int .i64 x.ofv,.string x.en,.string x.ex,.slice da x.df.length dc,.string x.sb] 35)).heap.size:=by simp
      go_upto_region 8 with fail
      generalize wo.alloc (.cells #[.string x.nm,.int .u8 (x.kd:Int),.int .i64 x.rg,.int .i64 x.ofv,.string x.en,.string x.ex,.slice da x.df.length dc,.string x.sb] 35)=W1 at *
      have hkv:∀ g,kv.ownBlock=some g→w2.heap.size+1≤g∧g<wo.heap.size:=fun g hg=>HS.out.own.lt g hg
      have HKV:=Lib.hid hkv
      have hzW:w2.heap.size<wo.heap.size:=HS.out.lt
      have hSS:∀ W',Below W1.heap.size W1 W'→W'.cell? ⟨w2.heap.size,1,none⟩=some kv∧W'.cell? ⟨wo.heap.size,1,none⟩=some (.int .u8 (x.kd:Int)):=fun W' g=>⟨(HS1.out.below g).c1,(g.cell (p:=⟨wo.heap.size,1,none⟩) hz9).trans c9⟩
      have HSS:=Lib.hid hSS
      have hFin:∀ gg cap2 w10,(W1.drew.alloc (.cells #[.int .u8 (x.kd:Int)] 5)).grownBy w10 kv.ownBlock→w10.ownsRow (w2.heap.size+1) 5 1 (.slice (some ⟨gg,0,none⟩) (k+1) cap2) (k+1) (u8s ((kindsM m).take k) ++ [.int .u8 (x.kd:Int)])→(w10.cell? ⟨w2.heap.size,1,none⟩=some kv∧w10.cell? ⟨wo.heap.size,1,none⟩=some (.int .u8 (x.kd:Int)))∧w10.frozen? ⟨w2.heap.size,1,none⟩=false∧Sn m w2.heap.size IB (k+1) (.slice (some ⟨gg,0,none⟩) (k+1) cap2) w2 (w10.setCell ⟨w2.heap.size,1,none⟩ (.slice (some ⟨gg,0,none⟩) (k+1) cap2)):=by
        intro gg cap2 w10 hg ho
        have hs2:=HS1.out.below ((Below.refl W1.heap.size W1).drew.alloc (Nat.le_refl _) (.cells #[.int .u8 (x.kd:Int)] 5))
        obtain ⟨e0,e1,e2,e3⟩:=hs2.grow hg
        have hx9:w10.heap[wo.heap.size]? = (W1.drew.alloc (.cells #[.int .u8 (x.kd:Int)] 5)).heap[wo.heap.size]? := hg.block _ (by simp;omega) fun e=>by have:=HKV.out _ e.symm;omega
        refine ⟨⟨e1,(World.cell?_of_block (w:=W1.drew.alloc (.cells #[.int .u8 (x.kd:Int)] 5)) hx9).trans (((Below.refl W1.heap.size W1).drew.alloc (Nat.le_refl _) _).cell (p:=⟨wo.heap.size,1,none⟩) hz9 |>.trans c9)⟩,e3,?_⟩
        have:=hs2.push hlt (Nat.le_refl _) hg (by rw [← HX.out];exact ho)
        exact this
      have HFin:=Lib.hid hFin
      have hB0:Below W1.heap.size W1 W1:=Below.refl _ _
      clear hkv hSS hFin c9
      refine wp_region_any (by kernel_rfl) ?_
      change wpAny _ _ _ _ _ _ _ (World.drew _)
      refine wpAny_sink (n:=11) (o:=⟨none,.store 149 (.tmp 40) (.tmp 38),0, "sets.go:42", #[⟨10,.data⟩,⟨8,.data⟩,⟨8,.chain⟩,⟨0,.phase⟩,⟨1,.phase⟩,⟨2,.phase⟩,⟨3,.phase⟩,⟨4,.phase⟩,⟨5,.phase⟩,⟨6,.phase⟩,⟨7,.phase⟩,⟨8,.phase⟩],none⟩) (ops':=_) (by decide) (by kernel_rfl) (by rfl) (by rfl) ?_
      refine wpAny_sink (n:=10) (o:=⟨some 40,.fieldAddr 176 (.tmp 39) 1,0, "sets.go:42", #[⟨9,.data⟩,⟨0,.phase⟩,⟨1,.phase⟩,⟨2,.phase⟩,⟨3,.phase⟩,⟨4,.phase⟩,⟨5,.phase⟩,⟨6,.phase⟩,⟨7,.phase⟩,⟨8,.phase⟩],none⟩) (ops':=_) (by decide) (by kernel_rfl) (by rfl) (by rfl) ?_
      refine wpAny_sink (n:=9) (o:=⟨some 39,.nilCheck (.tmp 30),0, "sets.go:42", #[⟨0,.data⟩,⟨0,.phase⟩,⟨1,.phase⟩,⟨2,.phase⟩,⟨3,.phase⟩,⟨4,.phase⟩,⟨5,.phase⟩,⟨6,.phase⟩,⟨7,.phase⟩,⟨8,.phase⟩],none⟩) (ops':=#[⟨some 30,.move (.tmp 6),77, "sets.go:42", #[],none⟩,⟨some 31,.move (.tmp 6),77, "sets.go:42", #[],none⟩,⟨some 32,.nilCheck (.tmp 31),0, "sets.go:42", #[⟨1,.data⟩],none⟩,⟨some 33,.fieldAddr 176 (.tmp 32) 1,0, "sets.go:42", #[⟨2,.data⟩],none⟩,⟨some 34,.load 149 (.tmp 33),149, "sets.go:42", #[⟨3,.data⟩],none⟩,⟨some 35,.fieldAddr 35 (.tmp 8) 1,0, "sets.go:42", #[],none⟩,⟨some 36,.load 5 (.tmp 35),5, "sets.go:42", #[⟨5,.data⟩],none⟩,⟨some 37,.buildSlice 149 1 #[(0,.tmp 36)],149, "sets.go:42", #[⟨6,.data⟩],none⟩,⟨some 38,.call { callee:=.builtin .append,args:=#[.tmp 34,.tmp 37],argTypes:=#[149,149] },149, "sets.go:42", #[⟨4,.data⟩,⟨7,.data⟩],none⟩]) (by decide) (by kernel_rfl) (by rfl) (by rfl) ?_
      refine wpAny_of_heldS (S:=(fun W'=>W'.cell? ⟨w2.heap.size,1,none⟩=some kv∧W'.cell? ⟨wo.heap.size,1,none⟩=some (.int .u8 (x.kd:Int)))) ?_ (fun hHeld=>?_)
      · (try dsimp only) <;> (first | exact HSS.out _ hB0.drew | exact HSS.out _ (hB0.drew.alloc (Nat.le_refl _) _) | exact s10)
      refine tk 0 rfl ?_
      try simp only [Act.put,lyA,lyZ,lyS]
      refine tk 1 rfl ?_
      try simp only [Act.put,lyA,lyZ,lyS]
      refine tk 2 rfl ?_
      try simp only [Act.put,lyA,lyZ,lyS]
      refine tk 3 rfl ?_
      try simp only [Act.put,lyA,lyZ,lyS]
      refine tk 4 rfl ?_
      try simp only [Act.put,lyA,lyZ,lyS]
      refine tk 5 rfl ?_
      try simp only [Act.put,lyA,lyZ,lyS]
      refine tk 6 rfl ?_
      try simp only [Act.put,lyA,lyZ,lyS]
      refine rdy [7] ?_
      refine rdC rfl (fun K hK=>?_) ?_
      (go_simp)
      refine hK.out _ _ ?_ (fun hH1=>?_)
      · (try dsimp only) <;> (first | exact HSS.out _ hB0.drew | exact HSS.out _ (hB0.drew.alloc (Nat.le_refl _) _) | exact s10)
      clear hK K hHeld
      try simp only [Act.put,lyA,lyZ,lyS]
      refine rdy [8] ?_
      refine rdC rfl (fun K hK=>?_) ?_
      ((refine step_append_lies _ (by rfl) _ _ _ (by rfl) (w2.heap.size+1) 5 iU _ 1 1 Tryz.underlying149 hiU zU0 zU1 zU2 rfl (by omega) _ k (u8s ((kindsM m).take k)) (by rfl) ((HS1.out.own.drew).alloc _) ⟨W1.heap.size,0,none⟩ 1 1 [.int .u8 (x.kd:Int)] (by rfl) (by rfl) (World.news_of_block (cs:=#[.int .u8 (x.kd:Int)]) (t:=5) (fr:=(0,0)) (alloc1_at W1.drew _)) (by simp [Value.oneCell']) (by omega) (by unfold maxLen;omega) (by omega) (by simp;omega) (W1.heap.size+1) (by simp) ?_;intro gg cap2 w10 hown10 hgrow10 hat10 hlt10;obtain ⟨s10,f10,hfin⟩:=HFin.out gg cap2 w10 hgrow10 hown10;have s100:=s10.1))
      refine hK.out _ _ ?_ (fun hH2=>?_)
      · (try dsimp only) <;> (first | exact HSS.out _ hB0.drew | exact HSS.out _ (hB0.drew.alloc (Nat.le_refl _) _) | exact s10)
      clear hK K hH1
      try simp only [Act.put,lyA,lyZ,lyS]
      refine wpAnyH_done (by kernel_rfl) ?_ _
      rotate_left
      exact AllReadyH.nil
      exact AllReadyH.nil
      all_goals
        refine sinkQ_of fun K hK=>?_
        go_simp
        refine hK _ _ ?_
        clear hK K
        refine sinkQ_of fun K hK=>?_
        go_simp
        refine hK _ _ ?_
        clear hK K
        refine sinkQ_of fun K hK=>?_
        go_simp
        refine hK _ _ ?_
        clear hK K
        go_wp2_with fail
        go_roundw
        case rel=>exact ⟨k+1,by omega,by go_num,_,hfin⟩
        case measure=>simp [intOf] <;> omega
    · obtain rfl:k=m.vers.length:=by omega
      have HF:Hid (SetAt w.heap.size m w2.heap.size wo):=Lib.hid
        ⟨IB,kv,(IdxAt.low' HI2.out (by simp)).grown HS.out.bel,HS.out.c0,HS.out.c1,HS.out.c2,RowU.own (N:=w2.heap.size+1) (by have:=HS.out.own;rw [List.take_of_length_le (by rw [kindsM_len];exact Nat.le_refl _)] at this;rw [kindsM_len];exact this),HS.out.lt⟩
      go_wp2_with fail
      refine bodyPost_ret (results_tmp2 rfl _ _ _) rfl ⟨HBo.out.bel,.inl ⟨HR.out,w2.heap.size,?_,HF.out⟩⟩
      first | done | rfl
theorem below_ch {w a b:World} (h:Below w.heap.size w a) (g:Below a.heap.size a b):Below w.heap.size w b:=h.trans (g.mono h.size)
def fit1 (m:MdlD) (l:List Int):Bool:=l.length == m.regs.length && fitRow m l
def fit2 (m:MdlD) (la ll:List Int):Bool:=fit1 m la && fit1 m ll
theorem fit1_row {m:MdlD} {l:List Int} {j:Nat} (hj:j<l.length) (h:mayM m (l.getD j (-1)) j=false):fit1 m l=false:=by
 unfold fit1
 cases hf:fitRow m l with
 | false=>simp
 | true=>rw [fit_at hf hj] at h;cases h
theorem fit1_len {m:MdlD} {l:List Int} (h:¬ l.length=m.regs.length):fit1 m l=false:=by
 unfold fit1;simp [h]
theorem fit1_all {m:MdlD} {l:List Int} (hl:l.length=m.regs.length) (h:∀ j,j<l.length→mayM m (l.getD j (-1)) j=true):fit1 m l=true:=by
 unfold fit1 fitRow;simp only [hl,beq_self_eq_true,Bool.true_and]
 rw [List.all_eq_true];intro j hj;exact h j (by rw [hl];exact List.mem_range.1 hj)
theorem may_none (m:MdlD) (r:Int):mayM m (-1) r=true:=by unfold mayM;simp [hasV]
theorem may_split {m:MdlD} (h0:riM m=(0,0,0)) {v r:Int} (hv:v≠-1):mayM m v r=(ofKd m [1,2] v && homeM m v == r):=by
 unfold mayM ofKd
 cases hb:hasV m v with
 | false =>
  simp only [Bool.false_and]
  rw [if_neg (by decide)]
  simpa using hv
 | true =>
  obtain ⟨k,rfl,hk⟩:=hasV_nat hb
  rw [if_pos rfl,Int.toNat_natCast,List.getElem?_eq_getElem hk,kdA_at hk]
  have e:hasN [1,2] m.vers[k].kd=(m.vers[k].kd == 1 || m.vers[k].kd == 2):=by
    unfold hasN;simp
  rw [e]
  simp only [Bool.true_and]
  cases hd:(m.vers[k].kd == 1 || m.vers[k].kd == 2) with
  | false=>simp
  | true =>
   have:m.vers[k].kd=1∨m.vers[k].kd=2:=by simpa using hd
   have hp:=plain_at h0 hk (by omega)
   have:homeM m (k:Int)=m.vers[k].rg:=by
     unfold homeM;rw [hb,if_pos rfl]
     rcases ver_at h0 hk with ⟨_,r,hr,e1,e2,_⟩ | ⟨h2,_⟩
     · rw [e1,e2]
     · omega
   rw [this];simp
set_option maxRecDepth 100000 in
set_option maxHeartbeats 4000000 in
theorem setsFits_any {B:Nat} {m:MdlD} {SB:Nat} {w:World} (h:SetAt B m SB w) (h0:riM m=(0,0,0)) (la ll:List Int) (a1 a2:Option Addr) (c1 c2:Nat) (h1:RowIn w (.slice a1 la.length c1) la) (h2:RowIn w (.slice a2 ll.length c2) ll) (b1:la.length≤140737488355328) (b2:ll.length≤140737488355328) (hvl:m.vers.length≤90000) :
   Calls Tryz.prog 137 #[.pointer (some ⟨SB,0,none⟩),.agg #[.slice a1 la.length c1,.slice a2 ll.length c2]] w fun e w'=>e=.returned (.bool (fit2 m la ll))∧Below w.heap.size w w':=by
 have IS:=Lib.hid (fun wx (g:Below w.heap.size w wx) (v:Int)=>(setsIs_any (h.grown (below_ch g (below_al1 wx (.cells #[.int .u8 1,.int .u8 2] 5)))) v (.slice (some ⟨wx.heap.size,0,none⟩) 2 2) [1,2] (RowU.fresh wx [1,2] _ rfl 2 rfl _ rfl) (by decide)).mono (fun e w' q=>(show e=.returned (.bool (ofKd m [1,2] v))∧Below wx.heap.size wx w' from ⟨q.1,below_bx1 q.2⟩)))
 have HA:=Lib.hid (fun wx (g:Below w.heap.size w wx)=>h.grown g)
 have HH:=Lib.hid (fun wx (g:Below w.heap.size w wx) (IB:Nat) (hi:IdxAt B m IB wx) (k:Nat) (hk:k<100000)=>home_any hi (k:Int) (WalkArith.wf_i64 ⟨by omega,by omega⟩))
 have R1:=Lib.hid (fun (wx:World) (g:Below w.heap.size w wx)=>(h1.below g).len)
 have R2:=Lib.hid (fun (wx:World) (g:Below w.heap.size w wx)=>(h2.below g).len)
 have hc1:la.length≤c1:=by obtain ⟨a',c',e,h,_⟩:=h1.len;simp only [Value.slice.injEq] at e;rw [e.2.2];exact h
 have hc2:ll.length≤c2:=by obtain ⟨a',c',e,h,_⟩:=h2.len;simp only [Value.slice.injEq] at e;rw [e.2.2];exact h
 have MS:=Lib.hid (fun (v r:Int) (hv:v≠-1)=>may_split h0 (r:=r) hv)
 have F1:=Lib.hid (fun (h:fit1 m la=false)=>(show fit2 m la ll=false by unfold fit2;rw [h];rfl))
 have F2:=Lib.hid (fun (h:fit1 m ll=false)=>(show fit2 m la ll=false by unfold fit2;rw [h];simp))
 have FF:=Lib.hid (fun (h:fit1 m la=true) (h':fit1 m ll=true)=>(show fit2 m la ll=true by unfold fit2;rw [h,h'];rfl))
 obtain ⟨IB,kv,_,s0,s1,s2,_,hz⟩:=h
 have HC:=Lib.hid (fun wx (g:Below w.heap.size w wx)=>(show wx.cell? ⟨SB,0,none⟩=some (.pointer (some ⟨IB,0,none⟩))∧wx.cell? ⟨SB,2,none⟩=some (.int .i64 m.regs.length)∧IdxAt B m IB wx from ?_))
 rotate_left
 · obtain ⟨IB',kv',hi',s0',_⟩:=HA.out wx g
   have e0:=(g.cell (p:=⟨SB,0,none⟩) hz).trans s0
   have e2:=(g.cell (p:=⟨SB,2,none⟩) hz).trans s2
   rw [e0] at s0'
   simp only [Option.some.injEq,Value.pointer.injEq,Addr.mk.injEq,and_true] at s0'
   obtain rfl:=s0'
   exact ⟨e0,e2,hi'⟩
 have i0:∀ w (v0 v1:Value),(Instr.index 237 (.agg #[v0,v1]) (.int .i64 0)).run Tryz.prog w=.ok v0 w:=fun _ _ _=>by kernel_rfl
 have i1:∀ w (v0 v1:Value),(Instr.index 237 (.agg #[v0,v1]) (.int .i64 1)).run Tryz.prog w=.ok v1 w:=fun _ _ _=>by kernel_rfl
 generalize fit2 m la ll=FB at F1 F2 FF ⊢
 clear h0 h1 h2 s0 s1 s2 HA
 go_enter Tryz.func137,Tryz.ntmps137
 go_wp2_with fail
 go_loopw [16] (fun i wr=>(i=.int .i64 0∧Below w.heap.size w wr)∨(i=.int .i64 1∧Below w.heap.size w wr∧fit1 m la=true)∨(i=.int .i64 2∧Below w.heap.size w wr∧fit1 m la=true∧fit1 m ll=true)) (fun i _=>2 - (intOf i).toNat)
 case atStart=>exact .inl ⟨rfl,below_al1 w _⟩
 case round =>
  obtain ⟨wo,rfl⟩:∃ wo:World,wo=wr:=⟨_,rfl⟩
  rcases hrel with ⟨rfl,hb⟩ | ⟨rfl,hb,hf1⟩ | ⟨rfl,hb,hf1,hf2⟩
  · have HB:=Lib.hid hb
    clear hb
    by_cases hn:la.length=m.regs.length
    · have hd:((la.length:Int) != (m.regs.length:Int))=false:=by simp only [bne_eq_false_iff_eq];omega
      have HFit:=Lib.hid (fun hh=>fit1_all (m:=m) (l:=la) hn hh)
      obtain ⟨n,hn2⟩:∃ n,la.length=n:=⟨_,rfl⟩
      have HN:=Lib.hid hn2
      obtain ⟨t0,t2,_⟩:=HC.out wo HB.out
      rw [hn2] at hd hc1 b1 ⊢
      clear hn hn2
      go_wp2_with fail
      go_loopw [28] (fun i wr=>∃ k:Nat,k≤n∧i=.int .i64 k∧Below w.heap.size w wr∧∀ j,j<k→mayM m (la.getD j (-1)) j=true) (fun i _=>n - (intOf i).toNat)
      case atStart=>exact ⟨0,by omega,rfl,HB.out,fun j hj=>by omega⟩
      case round =>
       obtain ⟨wk,rfl⟩:∃ wo:World,wo=wr:=⟨_,rfl⟩
       obtain ⟨k,hk,rfl,hb,hno⟩:=hrel
       have HBk:=Lib.hid hb
       have HNo:=Lib.hid hno
       clear hb hno t0 t2
       obtain ⟨t0,t2,hi⟩:=HC.out wk HBk.out
       have HIx:=Lib.hid hi
       clear hi
       by_cases hlt:k<n
       · have hkl:k<la.length:=by rw [HN.out];exact hlt
         obtain ⟨a',c',e,_,q⟩:=R1.out wk HBk.out
         obtain ⟨b1',o1,ea,hbl,hcl⟩:=q k hkl
         simp only [Value.slice.injEq] at e
         obtain ⟨rfl,e',rfl⟩:=e
         clear e'
         subst ea
         have hI:(k:Int)<(n:Int):=by omega
         have hI0:(0:Int)≤(k:Int):=by omega
         have hg:la.getD k (-1)=la[k]'hkl:=by rw [List.getD_eq_getElem?_getD,List.getElem?_eq_getElem hkl];rfl
         have HS:Hid (∀ b,mayM m (la.getD k (-1)) k=b→(b=true→∀ j,j<k+1→mayM m (la.getD j (-1)) j=true)∧(b=false→FB=false)):=fun b hb=>⟨fun ht j hj=>by
           by_cases e:j=k
           · subst e;rw [hb,ht]
           · exact HNo.out j (by omega),fun hf=>F1.out (fit1_row hkl (by rw [hb,hf]))⟩
         rw [hg] at HS
         obtain ⟨y,hy⟩:∃ y,la[k]'hkl=y:=⟨_,rfl⟩
         rw [hy] at hcl HS
         clear q hg hy hkl HNo
         by_cases e1:y=-1
         · subst e1
           have hT:=Lib.hid ((HS.out true (may_none m _)).1 rfl)
           clear HS
           go_wp2_with fail
           go_roundw
           case rel=>exact ⟨k+1,by omega,by go_num,HBk.out,hT.out⟩
           case measure=>simp [intOf] <;> omega
         · have d1:(y != -1)=true:=by simp only [bne_iff_ne,ne_eq];exact e1
           have HM:=Lib.hid (MS.out y k e1)
           have ISk:=Lib.hid (IS.out wk HBk.out y)
           cases d2:ofKd m [1,2] y with
           | false =>
            have hF:=Lib.hid ((HS.out false (by rw [HM.out,d2];rfl)).2 rfl)
            rw [d2] at ISk
            clear HS HM d2
            go_wp2_with fail
            (with_reducible refine (ISk.out).mono ?_)
            rintro e w5 ⟨rfl,g5⟩
            have HB5:=Lib.hid (below_ch HBk.out g5)
            go_wp2_with fail
            go_ret
            exact ⟨by rw [hF.out];first | done | rfl,HB5.out⟩
           | true =>
            have hy2:hasV m y=true:=by unfold ofKd at d2;rw [Bool.and_eq_true] at d2;exact d2.1
            obtain ⟨u,rfl,hu⟩:=hasV_yes hy2
            have HHu:=Lib.hid (fun wx g i hi=>HH.out wx g i hi u (by omega))
            rw [d2] at ISk
            cases d3:(homeM m u == (k:Int)) with
            | false =>
             have hF:=Lib.hid ((HS.out false (by rw [HM.out,d2,d3];rfl)).2 rfl)
             have d4:(homeM m u != (k:Int))=true:=by rw [bne,d3];rfl
             clear HS HM d2 d3 hy2 e1
             generalize homeM m u=hm at HHu d4
             go_wp2_with fail
             (with_reducible refine (ISk.out).mono ?_)
             rintro e w5 ⟨rfl,g5⟩
             have HB5:=Lib.hid (below_ch HBk.out g5)
             clear t0 t2 g5
             obtain ⟨t0,t2,hi⟩:=HC.out w5 HB5.out
             have HIx5:=Lib.hid hi
             clear hi
             go_wp2_with fail
             (with_reducible refine (HHu.out w5 HB5.out _ HIx5.out).mono ?_)
             rintro e w6 ⟨rfl,rfl⟩
             go_wp2_with fail
             go_ret
             exact ⟨by rw [hF.out];first | done | rfl,HB5.out⟩
            | true =>
             have hT:=Lib.hid ((HS.out true (by rw [HM.out,d2,d3];rfl)).1 rfl)
             have d4:(homeM m u != (k:Int))=false:=by rw [bne,d3];rfl
             clear HS HM d2 d3 hy2 e1
             generalize homeM m u=hm at HHu d4
             go_wp2_with fail
             (with_reducible refine (ISk.out).mono ?_)
             rintro e w5 ⟨rfl,g5⟩
             have HB5:=Lib.hid (below_ch HBk.out g5)
             clear t0 t2 g5
             obtain ⟨t0,t2,hi⟩:=HC.out w5 HB5.out
             have HIx5:=Lib.hid hi
             clear hi
             go_wp2_with fail
             (with_reducible refine (HHu.out w5 HB5.out _ HIx5.out).mono ?_)
             rintro e w6 ⟨rfl,rfl⟩
             go_wp2_with fail
             go_roundw
             case rel=>exact ⟨k+1,by omega,by go_num,HB5.out,hT.out⟩
             case measure=>simp [intOf] <;> omega
       · have hfit:Hid (fit1 m la=true):=Lib.hid (HFit.out fun j hj=>HNo.out j (by have:=HN.out;omega))
         clear HNo HFit
         go_wp2_with fail
         go_roundw
         case rel=>exact .inr (.inl ⟨rfl,HBk.out,hfit.out⟩)
         case measure=>simp [intOf] <;> omega
    · have hd:((la.length:Int) != (m.regs.length:Int))=true:=by simp only [bne_iff_ne,ne_eq];omega
      have HF:=Lib.hid (F1.out (fit1_len hn))
      obtain ⟨t0,t2,_⟩:=HC.out wo HB.out
      clear hn
      go_wp2_with fail
      go_ret
      exact ⟨by rw [HF.out];first | done | rfl,HB.out⟩
  · have HB:=Lib.hid hb
    have HP:=Lib.hid hf1
    clear hf1
    clear hb
    by_cases hn:ll.length=m.regs.length
    · have hd:((ll.length:Int) != (m.regs.length:Int))=false:=by simp only [bne_eq_false_iff_eq];omega
      have HFit:=Lib.hid (fun hh=>fit1_all (m:=m) (l:=ll) hn hh)
      obtain ⟨n,hn2⟩:∃ n,ll.length=n:=⟨_,rfl⟩
      have HN:=Lib.hid hn2
      obtain ⟨t0,t2,_⟩:=HC.out wo HB.out
      rw [hn2] at hd hc2 b2 ⊢
      clear hn hn2
      go_wp2_with fail
      go_loopw [28] (fun i wr=>∃ k:Nat,k≤n∧i=.int .i64 k∧Below w.heap.size w wr∧∀ j,j<k→mayM m (ll.getD j (-1)) j=true) (fun i _=>n - (intOf i).toNat)
      case atStart=>exact ⟨0,by omega,rfl,HB.out,fun j hj=>by omega⟩
      case round =>
       obtain ⟨wk,rfl⟩:∃ wo:World,wo=wr:=⟨_,rfl⟩
       obtain ⟨k,hk,rfl,hb,hno⟩:=hrel
       have HBk:=Lib.hid hb
       have HNo:=Lib.hid hno
       clear hb hno t0 t2
       obtain ⟨t0,t2,hi⟩:=HC.out wk HBk.out
       have HIx:=Lib.hid hi
       clear hi
       by_cases hlt:k<n
       · have hkl:k<ll.length:=by rw [HN.out];exact hlt
         obtain ⟨a',c',e,_,q⟩:=R2.out wk HBk.out
         obtain ⟨b1',o1,ea,hbl,hcl⟩:=q k hkl
         simp only [Value.slice.injEq] at e
         obtain ⟨rfl,e',rfl⟩:=e
         clear e'
         subst ea
         have hI:(k:Int)<(n:Int):=by omega
         have hI0:(0:Int)≤(k:Int):=by omega
         have hg:ll.getD k (-1)=ll[k]'hkl:=by rw [List.getD_eq_getElem?_getD,List.getElem?_eq_getElem hkl];rfl
         have HS:Hid (∀ b,mayM m (ll.getD k (-1)) k=b→(b=true→∀ j,j<k+1→mayM m (ll.getD j (-1)) j=true)∧(b=false→FB=false)):=fun b hb=>⟨fun ht j hj=>by
           by_cases e:j=k
           · subst e;rw [hb,ht]
           · exact HNo.out j (by omega),fun hf=>F2.out (fit1_row hkl (by rw [hb,hf]))⟩
         rw [hg] at HS
         obtain ⟨y,hy⟩:∃ y,ll[k]'hkl=y:=⟨_,rfl⟩
         rw [hy] at hcl HS
         clear q hg hy hkl HNo
         by_cases e1:y=-1
         · subst e1
           have hT:=Lib.hid ((HS.out true (may_none m _)).1 rfl)
           clear HS
           go_wp2_with fail
           go_roundw
           case rel=>exact ⟨k+1,by omega,by go_num,HBk.out,hT.out⟩
           case measure=>simp [intOf] <;> omega
         · have d1:(y != -1)=true:=by simp only [bne_iff_ne,ne_eq];exact e1
           have HM:=Lib.hid (MS.out y k e1)
           have ISk:=Lib.hid (IS.out wk HBk.out y)
           cases d2:ofKd m [1,2] y with
           | false =>
            have hF:=Lib.hid ((HS.out false (by rw [HM.out,d2];rfl)).2 rfl)
            rw [d2] at ISk
            clear HS HM d2
            go_wp2_with fail
            (with_reducible refine (ISk.out).mono ?_)
            rintro e w5 ⟨rfl,g5⟩
            have HB5:=Lib.hid (below_ch HBk.out g5)
            go_wp2_with fail
            go_ret
            exact ⟨by rw [hF.out];first | done | rfl,HB5.out⟩
           | true =>
            have hy2:hasV m y=true:=by unfold ofKd at d2;rw [Bool.and_eq_true] at d2;exact d2.1
            obtain ⟨u,rfl,hu⟩:=hasV_yes hy2
            have HHu:=Lib.hid (fun wx g i hi=>HH.out wx g i hi u (by omega))
            rw [d2] at ISk
            cases d3:(homeM m u == (k:Int)) with
            | false =>
             have hF:=Lib.hid ((HS.out false (by rw [HM.out,d2,d3];rfl)).2 rfl)
             have d4:(homeM m u != (k:Int))=true:=by rw [bne,d3];rfl
             clear HS HM d2 d3 hy2 e1
             generalize homeM m u=hm at HHu d4
             go_wp2_with fail
             (with_reducible refine (ISk.out).mono ?_)
             rintro e w5 ⟨rfl,g5⟩
             have HB5:=Lib.hid (below_ch HBk.out g5)
             clear t0 t2 g5
             obtain ⟨t0,t2,hi⟩:=HC.out w5 HB5.out
             have HIx5:=Lib.hid hi
             clear hi
             go_wp2_with fail
             (with_reducible refine (HHu.out w5 HB5.out _ HIx5.out).mono ?_)
             rintro e w6 ⟨rfl,rfl⟩
             go_wp2_with fail
             go_ret
             exact ⟨by rw [hF.out];first | done | rfl,HB5.out⟩
            | true =>
             have hT:=Lib.hid ((HS.out true (by rw [HM.out,d2,d3];rfl)).1 rfl)
             have d4:(homeM m u != (k:Int))=false:=by rw [bne,d3];rfl
             clear HS HM d2 d3 hy2 e1
             generalize homeM m u=hm at HHu d4
             go_wp2_with fail
             (with_reducible refine (ISk.out).mono ?_)
             rintro e w5 ⟨rfl,g5⟩
             have HB5:=Lib.hid (below_ch HBk.out g5)
             clear t0 t2 g5
             obtain ⟨t0,t2,hi⟩:=HC.out w5 HB5.out
             have HIx5:=Lib.hid hi
             clear hi
             go_wp2_with fail
             (with_reducible refine (HHu.out w5 HB5.out _ HIx5.out).mono ?_)
             rintro e w6 ⟨rfl,rfl⟩
             go_wp2_with fail
             go_roundw
             case rel=>exact ⟨k+1,by omega,by go_num,HB5.out,hT.out⟩
             case measure=>simp [intOf] <;> omega
       · have hfit:Hid (fit1 m ll=true):=Lib.hid (HFit.out fun j hj=>HNo.out j (by have:=HN.out;omega))
         clear HNo HFit
         go_wp2_with fail
         go_roundw
         case rel=>exact .inr (.inr ⟨rfl,HBk.out,HP.out,hfit.out⟩)
         case measure=>simp [intOf] <;> omega
    · have hd:((ll.length:Int) != (m.regs.length:Int))=true:=by simp only [bne_iff_ne,ne_eq];omega
      have HF:=Lib.hid (F2.out (fit1_len hn))
      obtain ⟨t0,t2,_⟩:=HC.out wo HB.out
      clear hn
      go_wp2_with fail
      go_ret
      exact ⟨by rw [HF.out];first | done | rfl,HB.out⟩
  · have HB:=Lib.hid hb
    have HF:=Lib.hid (FF.out hf1 hf2)
    clear hb hf1 hf2
    go_wp2_with fail
    go_ret
    exact ⟨by rw [HF.out];first | done | rfl,HB.out⟩
theorem atL_at {l:List Int} {r:Nat} (h:r<l.length):atL l (r:Int)=l[r]:=by
 unfold atL;rw [Int.toNat_natCast,List.getD_eq_getElem?_getD,List.getElem?_eq_getElem h];rfl
theorem rule_top {m:MdlD} {la:List Int} {r:Nat} (hr:r<m.regs.length) (hl:la.length=m.regs.length) (ho:m.regs[r].own=-1):ruleM m la r=if 0≤la[r]'(by omega) then 0 else 1:=by
 unfold ruleM
 rw [ownA_at hr,ho,if_pos (by decide),atL_at (by omega)]
theorem rule_own {m:MdlD} {la:List Int} {r s:Nat} (hr:r<m.regs.length) (hl:la.length=m.regs.length) (hs:s<m.vers.length) (ho:m.regs[r].own=(s:Int)) (hk:m.vers[s].kd=1) {q:Nat} (hq:q<m.regs.length) (hg:m.vers[s].rg=(q:Int)) :
   ruleM m la r=if la[q]'(by omega) == (s:Int) then (if 0≤la[r]'(by omega) then 0 else 2) else (if 0≤la[r]'(by omega) then 3 else 0):=by
 have e:isA m la (s:Int)=(la[q]'(by omega) == (s:Int)):=by
   unfold isA
   rw [stands_at hs,hk,rgA_at hs,hg,atL_at (by omega)];simp
 unfold ruleM
 rw [ownA_at hr,ho,if_neg (by omega),atL_at (by omega),e]
set_option maxRecDepth 100000 in
set_option maxHeartbeats 2000000 in
theorem breaks_any {Q:Nat→BP} (m:MdlD) (p:Ph) (la ll:List Int) (a1 a2:Option Addr) (c1 c2:Nat) (r:Nat) (w:World) (h:Mod Q w m p) (h0:riM m=(0,0,0)) (hm:MdlOk m) (h1:RowIn w (.slice a1 la.length c1) la) (hl:la.length=m.regs.length) (hr:r<m.regs.length) :
   Calls Tryz.prog 213 #[mdV m p,.agg #[.slice a1 la.length c1,.slice a2 ll.length c2],.int .i64 r] w fun e w'=>e=.returned (.int .u8 (ruleM m la r:Int))∧Below w.heap.size w w':=by
 have hB2:Hid (Below w.heap.size w ((w.alloc (.cells #[.string m.nm,.slice p.a1 m.vars.length p.c1,.slice p.a2 m.evs.length p.c2,.slice p.a3 m.regs.length p.c3,.slice p.a4 m.vers.length p.c4,.slice p.a5 m.trns.length p.c5] 28)).alloc (.cells #[.slice a1 la.length c1,.slice a2 ll.length c2] 74))):=Lib.hid (below_al2 w _ _)
 have hrl:=hm.regs
 have hvl:=hm.vers
 obtain ⟨b3,o3,e3,hb3,k30,k31⟩:=h.regs.get hr
 have hcap3:=h.regs.cap (by omega)
 obtain ⟨a1',c1',e1,hcap1,q1⟩:=h1.len
 simp only [Value.slice.injEq] at e1
 obtain ⟨rfl,e1',rfl⟩:=e1
 clear e1'
 obtain ⟨b1,o1,ea1,hb1,k1⟩:=q1 r (by omega)
 have hrI:(r:Int)<(m.regs.length:Int):=by omega
 have hrL:(r:Int)<(la.length:Int):=by omega
 have hr0:(0:Int)≤(r:Int):=by omega
 rcases reg_right h0 hr with ⟨hr00,ho⟩ | ⟨hr00,s,hs,ho,hk⟩ <;> clear hr00
 · have E:=rule_top (la:=la) hr hl ho
   rw [ho] at k31
   obtain ⟨y,hy⟩:∃ y,la[r]'(by omega)=y:=⟨_,rfl⟩
   rw [hy] at k1 E
   rw [E]
   subst ea1
   unfold mdV
   rw [e3]
   clear h h0 hm h1 q1 E hy ho
   by_cases hp:0≤y
   · rw [if_pos hp]
     go_enter Tryz.func213,Tryz.ntmps213
     go_wp2_with fail
     go_quiet (fail)
     go_wp2_with fail
     go_ret
     exact ⟨rfl,below_drewN (below_al2 w _ _) _⟩
   · rw [if_neg hp]
     have hpd:decide (0≤y)=false:=decide_eq_false hp
     go_enter Tryz.func213,Tryz.ntmps213
     go_wp2_with fail
     go_quiet (fail)
     go_wp2_with fail
     go_ret
     exact ⟨rfl,below_drewN (below_al2 w _ _) _⟩
 · obtain ⟨hof,hg0,hg1⟩:=plain_at h0 hs (by omega)
   obtain ⟨q,hq⟩:=Int.eq_ofNat_of_zero_le hg0
   have hqr:q<m.regs.length:=by omega
   have E:=rule_own (la:=la) hr hl hs ho hk hqr hq
   obtain ⟨b4,o4,e4,hb4,dv,hdv,v0,v1,v2,v3,v4,v5,v6,v7⟩:=h.vers.get hs
   have hcap4:=h.vers.cap (by omega)
   rw [ho] at k31
   rw [hq] at v2
   obtain ⟨b1',o1',ea1',_,k2⟩:=q1 q (by omega)
   rw [ea1] at ea1'
   simp only [Option.some.injEq,Addr.mk.injEq,and_true] at ea1'
   obtain ⟨rfl,rfl⟩:=ea1'
   obtain ⟨y,hy⟩:∃ y,la[r]'(by omega)=y:=⟨_,rfl⟩
   obtain ⟨z,hz⟩:∃ z,la[q]'(by omega)=z:=⟨_,rfl⟩
   rw [hy] at k1 E
   rw [hz] at k2 E
   rw [E]
   subst ea1
   have hqI:(q:Int)<(la.length:Int):=by omega
   have hq0:(0:Int)≤(q:Int):=by omega
   have hsI:(s:Int)<(m.vers.length:Int):=by omega
   have hs0:(0:Int)≤(s:Int):=by omega
   have hs1:¬ ((s:Int)<0):=by omega
   unfold mdV
   rw [e3,e4]
   clear h h0 hm h1 q1 E hy hz ho hq hk hof hg0 hg1 v0 v1 v3 v4 v5 v6 v7 hdv
   cases hzs:(z == (s:Int)) with
   | true =>
    rw [if_pos rfl]
    by_cases hp:0≤y
    · rw [if_pos hp]
      go_enter Tryz.func213,Tryz.ntmps213
      go_wp2_with fail
      go_quiet (fail)
      go_wp2_with fail
      go_quiet (fail)
      go_wp2_with fail
      go_ret
      exact ⟨rfl,below_drewN (below_al2 w _ _) _⟩
    · rw [if_neg hp]
      have hpd:decide (0≤y)=false:=decide_eq_false hp
      go_enter Tryz.func213,Tryz.ntmps213
      go_wp2_with fail
      go_quiet (fail)
      go_wp2_with fail
      go_quiet (fail)
      go_wp2_with fail
      go_ret
      exact ⟨rfl,below_drewN (below_al2 w _ _) _⟩
   | false =>
    rw [if_neg (by decide)]
    by_cases hp:0≤y
    · rw [if_pos hp]
      go_enter Tryz.func213,Tryz.ntmps213
      go_wp2_with fail
      go_quiet (fail)
      go_wp2_with fail
      go_quiet (fail)
      go_wp2_with fail
      go_ret
      exact ⟨rfl,below_drewN (below_al2 w _ _) _⟩
    · rw [if_neg hp]
      have hpd:decide (0≤y)=false:=decide_eq_false hp
      go_enter Tryz.func213,Tryz.ntmps213
      go_wp2_with fail
      go_quiet (fail)
      go_wp2_with fail
      go_quiet (fail)
      go_wp2_with fail
      go_ret
      exact ⟨rfl,below_drewN (below_al2 w _ _) _⟩
structure Mc (m:MdlD) (p:Ph) (la ll:List Int) (a1 a2:Option Addr) (c1 c2:Nat) (w wx:World):Prop where
 mb:Mb m p w.heap.size w wx
 d0:wx.cell? ⟨w.heap.size+1,0,none⟩=some (.slice a1 la.length c1)
 d1:wx.cell? ⟨w.heap.size+1,1,none⟩=some (.slice a2 ll.length c2)
 sz:w.heap.size+1<wx.heap.size
 r1:RowIn wx (.slice a1 la.length c1) la
 r2:RowIn wx (.slice a2 ll.length c2) ll
theorem Mc.below {m:MdlD} {p:Ph} {la ll:List Int} {a1 a2:Option Addr} {c1 c2:Nat} {w wx wy:World} (h:Mc m p la ll a1 a2 c1 c2 w wx) (g:Below wx.heap.size wx wy):Mc m p la ll a1 a2 c1 c2 w wy :=
 ⟨h.mb.below g,(g.cell (p:=⟨w.heap.size+1,0,none⟩) h.sz).trans h.d0,(g.cell (p:=⟨w.heap.size+1,1,none⟩) h.sz).trans h.d1,Nat.lt_of_lt_of_le h.sz g.size,h.r1.below g,h.r2.below g⟩
theorem Mc.made {Q:Nat→BP} {m:MdlD} {p:Ph} {la ll:List Int} {a1 a2:Option Addr} {c1 c2:Nat} {w:World} (h:Mod Q w m p) (h1:RowIn w (.slice a1 la.length c1) la) (h2:RowIn w (.slice a2 ll.length c2) ll) :
   Mc m p la ll a1 a2 c1 c2 w ((w.alloc (.cells #[.string m.nm,.slice p.a1 m.vars.length p.c1,.slice p.a2 m.evs.length p.c2,.slice p.a3 m.regs.length p.c3,.slice p.a4 m.vers.length p.c4,.slice p.a5 m.trns.length p.c5] 28)).alloc (.cells #[.slice a1 la.length c1,.slice a2 ll.length c2] 74)) :=
 ⟨(Mb.made h).below (below_al1 _ _),by simp,by simp,by simp,h1.below (below_al2 w _ _),h2.below (below_al2 w _ _)⟩
def chkE (m:MdlD) (la ll:List Int):Nat:=if (riM m).2.2=0 then (if fit2 m la ll then 0 else 2) else (riM m).2.2
set_option maxRecDepth 100000 in
set_option maxHeartbeats 2000000 in
theorem legalFits_any {Q:Nat→BP} (m:MdlD) (p:Ph) (la ll:List Int) (a1 a2:Option Addr) (c1 c2:Nat) (w:World) (h:Mod Q w m p) (hm:MdlOk m) (hT:Tab w) (h1:RowIn w (.slice a1 la.length c1) la) (h2:RowIn w (.slice a2 ll.length c2) ll) (b1:la.length≤140737488355328) (b2:ll.length≤140737488355328)
   (hv:m.vers.length≤512) (hr:m.regs.length≤512) (ht:m.trns.length≤512) :
   Calls Tryz.prog 212 #[mdV m p,.agg #[.slice a1 la.length c1,.slice a2 ll.length c2]] w fun e w'=>e=.returned (.int .i64 (chkE m la ll:Int))∧Below w.heap.size w w':=by
 have HC:=Lib.hid (Mc.made h h1 h2)
 have NS:=Lib.hid (fun wx (g:Mc m p la ll a1 a2 c1 c2 w wx)=>setsNew_any m p wx g.mb.mod hm (hT.next g.mb.bel) hv hr ht)
 have FT:=Lib.hid (fun wx (g:Mc m p la ll a1 a2 c1 c2 w wx) (B SB:Nat) (hs:SetAt B m SB wx) (h0:riM m=(0,0,0))=>setsFits_any hs h0 la ll a1 a2 c1 c2 g.r1 g.r2 b1 b2 (by omega))
 have HE:Hid (∀ c,chkE m la ll=c↔(if (riM m).2.2=0 then (if fit2 m la ll then 0 else 2) else (riM m).2.2)=c):=Lib.hid fun c=>Iff.rfl
 unfold mdV at NS ⊢
 generalize chkE m la ll=C at HE ⊢
 clear h hm hT h1 h2 b1 b2 hv hr ht
 go_enter Tryz.func212,Tryz.ntmps212
 obtain ⟨x0,x1,x2,x3,x4,x5,_⟩:=HC.out.mb.box
 go_wp2_with fail
 (with_reducible refine (NS.out _ HC.out).mono ?_)
 rintro e w3 ⟨g3,(⟨hr,SB,rfl,hs⟩ | ⟨hr,rfl⟩)⟩
 · have HC3:=Lib.hid (HC.out.below g3)
   have HS3:=Lib.hid hs
   have FT3:=Lib.hid (FT.out w3 HC3.out _ SB hs hr)
   have HE0:=Lib.hid (fun b (hb:fit2 m la ll=b)=>(HE.out (if b then 0 else 2)).2 (by rw [hr,hb];rfl))
   clear x0 x1 x2 x3 x4 x5 HC g3 hs hr NS FT HE
   have d0:=HC3.out.d0
   have d1:=HC3.out.d1
   cases hf:fit2 m la ll with
   | true =>
    have hC:=Lib.hid (HE0.out true hf)
    rw [hf] at FT3
    clear hf HE0
    go_wp2_with fail
    (with_reducible refine (FT3.out).mono ?_)
    rintro e w4 ⟨rfl,g4⟩
    go_wp2_with fail
    go_ret
    exact ⟨by rw [hC.out];rfl,(HC3.out.below g4).mb.bel⟩
   | false =>
    have hC:=Lib.hid (HE0.out false hf)
    rw [hf] at FT3
    clear hf HE0
    go_wp2_with fail
    (with_reducible refine (FT3.out).mono ?_)
    rintro e w4 ⟨rfl,g4⟩
    go_wp2_with fail
    go_ret
    exact ⟨by rw [hC.out];rfl,(HC3.out.below g4).mb.bel⟩
 · have HC3:=Lib.hid (HC.out.below g3)
   have hz1:(((riM m).2.2:Int) != 0)=true:=by simp only [bne_iff_ne,ne_eq];omega
   have hC:Hid (C=(riM m).2.2):=Lib.hid ((HE.out _).2 (if_neg hr))
   clear x0 x1 x2 x3 x4 x5 HC g3 hr NS FT HE
   go_wp2_with fail
   go_ret
   exact ⟨by rw [hC.out];rfl,HC3.out.mb.bel⟩
def fauV (l:List (Nat × Nat)):List Value:=l.flatMap fun x=>[.int .u8 (x.1:Int),.int .i64 (x.2:Int)]
theorem fauV_snoc (l:List (Nat × Nat)) (x:Nat × Nat):fauV (l ++ [x])=fauV l ++ [.int .u8 (x.1:Int),.int .i64 (x.2:Int)]:=by simp [fauV]
theorem info_Fault:(Tryz.prog.info? 164).map (fun i=>(i.zero,i.size,i.bytes))=some (some (.agg #[.int .u8 0,.int .i64 0]),2,16):=by kernel_rfl
theorem chk_zero {m:MdlD} {la ll:List Int} (h:chkE m la ll=0):riM m=(0,0,0)∧fit1 m la=true∧fit1 m ll=true:=by
 unfold chkE at h
 split at h
 · rename_i h0
   split at h
   · rename_i hf
     unfold fit2 at hf
     rw [Bool.and_eq_true] at hf
     exact ⟨riM_ok h0,hf⟩
   · cases h
 · rename_i h0;exact absurd h h0
theorem fit1_len' {m:MdlD} {l:List Int} (h:fit1 m l=true):l.length=m.regs.length:=by
 unfold fit1 at h;rw [Bool.and_eq_true] at h;simpa using h.1
theorem fit1_fit {m:MdlD} {l:List Int} (h:fit1 m l=true):fitRow m l=true:=by
 unfold fit1 at h;rw [Bool.and_eq_true] at h;exact h.2
def CheckP (m:MdlD) (la ll:List Int) (w:World) (e:Ending) (w':World):Prop:=∃ v,e=.returned (.tuple #[v,.int .i64 (chkE m la ll:Int)])∧Below w.heap.size w w'∧((chkE m la ll≠0∧v=.slice none 0 0)∨(chkE m la ll=0∧w'.ownsRow w.heap.size 164 2 v (fltF m la m.regs.length).length (fauV (fltF m la m.regs.length))))
set_option maxRecDepth 100000 in
set_option maxHeartbeats 4000000 in
theorem check_any {Q:Nat→BP} (m:MdlD) (p:Ph) (la ll:List Int) (a1 a2:Option Addr) (c1 c2:Nat) (w:World) (h:Mod Q w m p) (hm:MdlOk m) (hT:Tab w) (h1:RowIn w (.slice a1 la.length c1) la) (h2:RowIn w (.slice a2 ll.length c2) ll) (b1:la.length≤140737488355328) (b2:ll.length≤140737488355328)
   (hv:m.vers.length≤512) (hr:m.regs.length≤512) (ht:m.trns.length≤512) :
   Calls Tryz.prog 120 #[mdV m p,.agg #[.slice a1 la.length c1,.slice a2 ll.length c2]] w (CheckP m la ll w):=by
 obtain ⟨iF,hiF,zF0,zF1,zF2⟩:=info_parts info_Fault
 have HC:=Lib.hid (Mc.made h h1 h2)
 have FT:=Lib.hid (fun wx (g:Mc m p la ll a1 a2 c1 c2 w wx)=>legalFits_any m p la ll a1 a2 c1 c2 wx g.mb.mod hm (hT.next g.mb.bel) g.r1 g.r2 b1 b2 hv hr ht)
 have BK:=Lib.hid (fun (h0:riM m=(0,0,0)) (hl:la.length=m.regs.length) wx (g:Mc m p la ll a1 a2 c1 c2 w wx) (k:Nat) (hk:k<m.regs.length)=>breaks_any m p la ll a1 a2 c1 c2 k wx g.mb.mod h0 hm g.r1 hl hk)
 unfold mdV at FT BK ⊢
 unfold CheckP
 have HZ:=Lib.hid (fun (h:chkE m la ll=0)=>chk_zero h)
 generalize chkE m la ll=C at *
 clear h hm hT h1 h2 b1 b2 hv ht
 go_enter Tryz.func120,Tryz.ntmps120
 obtain ⟨x0,x1,x2,x3,x4,x5,_⟩:=HC.out.mb.box
 go_wp2_with fail
 (with_reducible refine (FT.out _ HC.out).mono ?_)
 rintro e w3 ⟨rfl,g3⟩
 have HC3:=Lib.hid (HC.out.below g3)
 clear x0 x1 x2 x3 x4 x5 HC g3 FT
 by_cases hc:C=0
 · obtain ⟨h0,hf1,_⟩:=HZ.out hc
   have hl:=fit1_len' hf1
   have HB0:=Lib.hid (BK.out h0 hl)
   subst hc
   clear HZ h0 hf1 BK hl
   obtain ⟨x0,x1,x2,x3,x4,x5,_⟩:=HC3.out.mb.box
   go_wp2_with fail
   clear x0 x1 x2 x3 x4 x5
   go_loopw [7,19] (fun v i wr=>∃ k:Nat,k≤m.regs.length∧i=.int .i64 k∧Below w3.heap.size w3 wr∧wr.ownsRow w3.heap.size 164 2 v (fltF m la k).length (fauV (fltF m la k))) (fun _ i _=>m.regs.length - (intOf i).toNat)
   case atStart=>exact ⟨0,by omega,rfl,Below.refl _ _,World.ownsRow_nil _ _ _ _⟩
   case round =>
    obtain ⟨wo,rfl⟩:∃ wo:World,wo=wr:=⟨_,rfl⟩
    obtain ⟨k,hk,rfl,hb,ho⟩:=hrel
    have HB:=Lib.hid hb
    have HO:=Lib.hid ho
    have HCo:=Lib.hid (HC3.out.below hb)
    have hzo:w3.heap.size≤wo.heap.size:=hb.size
    clear hb ho
    by_cases hlt:k<m.regs.length
    · have hI:(k:Int)<(m.regs.length:Int):=by omega
      have HBk:=Lib.hid (HB0.out wo HCo.out k hlt)
      have HSn:=Lib.hid (fltF_succ m la k)
      have hrl:=rule_le m la k
      obtain ⟨x0,x1,x2,x3,x4,x5,_⟩:=HCo.out.mb.box
      have d0:=HCo.out.d0
      have d1:=HCo.out.d1
      generalize ruleM m la k=ρ at HBk HSn hrl
      have HL:=Lib.hid (fltF_len m la k)
      by_cases hρ:ρ=0
      · subst hρ
        have HSm:Hid (fltF m la (k+1)=fltF m la k):=Lib.hid (by rw [HSn.out];simp)
        go_wp2_with fail
        (with_reducible refine (HBk.out).mono ?_)
        rintro e w5 ⟨rfl,g5⟩
        have HO5:=Lib.hid (own_below HO.out g5)
        go_wp2_with fail
        go_roundw
        case rel=>exact ⟨k+1,by omega,by go_num,below_ch HB.out g5,by rw [HSm.out];exact HO5.out⟩
        case measure=>simp [intOf] <;> omega
      · have HSm:Hid (fltF m la (k+1)=fltF m la k ++ [(ρ,k)]):=Lib.hid (by rw [HSn.out,if_neg hρ])
        have d2:((ρ:Int) != 0)=true:=by simp only [bne_iff_ne,ne_eq];omega
        have HLn:Hid ((fltF m la k).length≤512):=Lib.hid (by have:=HL.out;omega)
        clear HSn HL hρ
        go_wp2_with fail
        (with_reducible refine (HBk.out).mono ?_)
        rintro e w5 ⟨rfl,g5⟩
        have HO5:=Lib.hid (own_below HO.out g5)
        have HB5:=Lib.hid (below_ch HB.out g5)
        have hz5:w3.heap.size≤w5.heap.size:=HB5.out.size
        clear g5
        go_wp2_with (at_builtin;refine wpList_append_own _ rfl _ _ 157 rfl w3.heap.size 164 iF _ 2 16 Tryz.underlying157 hiF zF0 zF1 zF2 rfl (by decide) _ _ _ rfl (HO5.out.alloc _) ⟨w5.heap.size,0,none⟩ 1 1 [.int .u8 (ρ:Int),.int .i64 (k:Int)] rfl rfl (World.news_of_block (cs:=#[.int .u8 (ρ:Int),.int .i64 (k:Int)]) (t:=164) (fr:=(0,0)) (alloc1_at w5 _)) (by simp [Value.oneCell']) (by have:=HLn.out;unfold maxLen;omega) (by have:=HLn.out;omega) (by simp;omega) ?_;intro v6 w6 hown6 hgrow6 _)
        have HB6:Hid (Below w3.heap.size w3 w6):=Lib.hid ((HB5.out.alloc hz5 _).grown hgrow6 (by simp;omega) fun q hq=>(HO5.out.lt q hq).1)
        have HO6:Hid (w6.ownsRow w3.heap.size 164 2 v6 (fltF m la (k+1)).length (fauV (fltF m la (k+1)))):=Lib.hid (by
          rw [HSm.out,fauV_snoc,List.length_append];exact hown6)
        clear hown6 hgrow6
        go_roundw
        case rel=>exact ⟨k+1,by omega,by go_num,HB6.out,HO6.out⟩
        case measure=>simp [intOf] <;> omega
    · obtain rfl:k=m.regs.length:=by omega
      go_wp2_with fail
      refine bodyPost_ret (results_tmp2 rfl _ _ _) rfl ⟨_,?_,HCo.out.mb.bel,by have hh:=HO.out.mono (base':=w.heap.size) (by have:=HC3.out.mb.bel.size;omega);first | exact .inr ⟨rfl,hh⟩ | exact hh⟩
      first | done | rfl
 · have hz1:((C:Int) != 0)=true:=by simp only [bne_iff_ne,ne_eq];omega
   have HCn:=Lib.hid hc
   clear HZ BK hc
   go_wp2_with fail
   refine bodyPost_ret (results_tmp2 rfl _ _ _) rfl ⟨.slice none 0 0,?_,HC3.out.mb.bel,.inl ⟨HCn.out,rfl⟩⟩
   first | done | rfl
def legB (m:MdlD) (la ll:List Int):Bool:=chkE m la ll == 0 && legM m la
set_option maxRecDepth 100000 in
set_option maxHeartbeats 2000000 in
theorem legal_any {Q:Nat→BP} (m:MdlD) (p:Ph) (la ll:List Int) (a1 a2:Option Addr) (c1 c2:Nat) (w:World) (h:Mod Q w m p) (hm:MdlOk m) (hT:Tab w) (h1:RowIn w (.slice a1 la.length c1) la) (h2:RowIn w (.slice a2 ll.length c2) ll) (b1:la.length≤140737488355328) (b2:ll.length≤140737488355328)
   (hv:m.vers.length≤512) (hr:m.regs.length≤512) (ht:m.trns.length≤512) :
   Calls Tryz.prog 123 #[mdV m p,.agg #[.slice a1 la.length c1,.slice a2 ll.length c2]] w fun e w'=>e=.returned (.bool (legB m la ll))∧Below w.heap.size w w':=by
 have HC:=Lib.hid (Mc.made h h1 h2)
 have FT:=Lib.hid (fun wx (g:Mc m p la ll a1 a2 c1 c2 w wx)=>check_any m p la ll a1 a2 c1 c2 wx g.mb.mod hm (hT.next g.mb.bel) g.r1 g.r2 b1 b2 hv hr ht)
 have HE:Hid (∀ b,legB m la ll=b↔(chkE m la ll == 0 && legM m la)=b):=Lib.hid fun b=>Iff.rfl
 unfold CheckP at FT
 unfold mdV at FT ⊢
 generalize legB m la ll=R at HE ⊢
 generalize chkE m la ll=C at *
 clear h hm hT h1 h2 b1 b2 hv hr ht
 go_enter Tryz.func123,Tryz.ntmps123
 obtain ⟨x0,x1,x2,x3,x4,x5,_⟩:=HC.out.mb.box
 go_wp2_with fail
 (with_reducible refine (FT.out _ HC.out).mono ?_)
 rintro e w3 ⟨v,rfl,g3,(⟨hc,rfl⟩ | ⟨rfl,ho⟩)⟩
 · have HC3:=Lib.hid (HC.out.below g3)
   have hR:Hid (R=false):=Lib.hid ((HE.out false).2 (by simp [hc]))
   have hz1:((C:Int) == 0)=false:=by simp only [beq_eq_false_iff_ne,ne_eq];omega
   clear x0 x1 x2 x3 x4 x5 HC g3 FT HE hc
   go_wp2_with fail
   go_ret
   exact ⟨by rw [hR.out];first | done | rfl,HC3.out.mb.bel⟩
 · have HC3:=Lib.hid (HC.out.below g3)
   obtain ⟨a,c,rfl⟩:∃ a c,v=.slice a (fltF m la m.regs.length).length c:=by
     rcases ho.2 with ⟨e,h0⟩ | ⟨g,cap,_,e,_⟩
     · exact ⟨none,0,by rw [e,h0]⟩
     · exact ⟨_,_,e⟩
   have hN:=fltF_nil m la
   have hLe:=fltF_len m la m.regs.length
   generalize (fltF m la m.regs.length).length=n at hN hLe
   by_cases hn:n=0
   · subst hn
     have hR:Hid (R=true):=Lib.hid ((HE.out true).2 (by rw [hN.1 rfl];rfl))
     clear x0 x1 x2 x3 x4 x5 HC g3 FT HE ho hN
     go_wp2_with fail
     go_ret
     exact ⟨by rw [hR.out];first | done | rfl,HC3.out.mb.bel⟩
   · have hR:Hid (R=false):=Lib.hid ((HE.out false).2 (by
       cases hl:legM m la with
       | false=>rfl
       | true=>exact absurd (hN.2 hl) hn))
     have hz1:((n:Int) == 0)=false:=by simp only [beq_eq_false_iff_ne,ne_eq];omega
     clear x0 x1 x2 x3 x4 x5 HC g3 FT HE ho hN hn
     go_wp2_with fail
     go_ret
     exact ⟨by rw [hR.out];first | done | rfl,HC3.out.mb.bel⟩
theorem below_chF {w a b:World} (h:Below w.heap.size w a) (g:Below a.heap.size a b):Below w.heap.size w b:=h.trans (g.mono h.size)
structure Kx (m:MdlD) (p:Ph) (k B3 B5:Nat) (w:World):Prop where
 mod:Mod anyM w m p
 box:Box w B3 (.string m.nm) (.slice p.a1 m.vars.length p.c1) (.slice p.a2 m.evs.length p.c2) (.slice p.a3 m.regs.length p.c3) (.slice p.a4 m.vers.length p.c4) (.slice p.a5 m.trns.length p.c5)
 kc:w.cell? ⟨B5,0,none⟩=some (.int .u8 (k:Int))
 lt:B5<w.heap.size
theorem Kx.below {m:MdlD} {p:Ph} {k B3 B5:Nat} {w w':World} (h:Kx m p k B3 B5 w) (g:Below w.heap.size w w'):Kx m p k B3 B5 w' :=
 ⟨h.mod.below g,h.box.below g h.box.sl,(g.cell (p:=⟨B5,0,none⟩) h.lt).trans h.kc,Nat.lt_of_lt_of_le h.lt g.size⟩
set_option maxHeartbeats 1000000 in
theorem kindIs_any (m:MdlD) (p:Ph) (k B3 B5 v:Nat) (w:World) (h:Kx m p k B3 B5 w) (hv:v<m.vers.length) (hvl:m.vers.length≤100000) :
   Calls Tryz.prog 215 #[.int .i64 (v:Int),.pointer (some ⟨B3,0,none⟩),.pointer (some ⟨B5,0,none⟩)] w fun e w'=>e=.returned (.bool (m.vers[v].kd == k))∧Below w.heap.size w w':=by
 obtain ⟨b2,o2,ea,hb2,dv,hdv,r0,r1,_⟩:=h.mod.vers.get hv
 have hcap:=h.mod.vers.cap (by omega)
 obtain ⟨x0,x1,x2,x3,x4,x5,_⟩:=h.box
 have kc:=h.kc
 rw [ea] at x4
 obtain ⟨x,hx⟩:∃ x,m.vers[v].kd=x:=⟨_,rfl⟩
 rw [hx] at r1 ⊢
 have hI:(v:Int)<(m.vers.length:Int):=by omega
 have hI0:(0:Int)≤(v:Int):=by omega
 have hE:Hid ((((x:Int) == (k:Int)):Bool)=(x == k)):=Lib.hid (by
   rw [Bool.eq_iff_iff,beq_iff_eq,beq_iff_eq];omega)
 clear h ea hdv r0 hx
 go_enter Tryz.func215,Tryz.ntmps215
 go_wp2_with fail
 go_quiet (fail)
 go_wp2_with fail
 go_ret
 exact ⟨by rw [← hE.out];first | done | rfl,below_drewN (Below.refl _ _) _⟩
def FindK (m:MdlD) (k:Nat) (all:List Int) (w:World) (e:Ending) (w':World):Prop:=∃ i:Int,e=.returned (.int .i64 i)∧Below w.heap.size w w'∧((i=-1∧all.find? (fun v=>kdA m v == k)=none)∨∃ j:Nat,∃ hj:j<all.length,i=j∧all.find? (fun v=>kdA m v == k)=some all[j])
theorem find_first {α:Type} {P:α→Bool} {l:List α} {j:Nat} (hj:j<l.length) (hP:P l[j]=true) (hno:∀ i (hi:i<l.length),i<j→P l[i]=false):l.find? P=some l[j]:=by
 rw [List.find?_eq_some_iff_getElem]
 exact ⟨hP,j,hj,rfl,fun i hi=>by rw [hno i (by omega) hi];rfl⟩
set_option maxHeartbeats 1000000 in
theorem indexK_any (m:MdlD) (p:Ph) (k B3 B5:Nat) (all:List Int) (av:Value) (w:World) (h:Kx m p k B3 B5 w) (hr:RowIn w av all) (hl:all.length≤100000) (hin:∀ j (hj:j<all.length),∃ q:Nat,q<m.vers.length∧all[j]=(q:Int)) (hvl:m.vers.length≤100000) :
   Calls Tryz.prog 171 #[av,.func (.func 215) #[] #[.pointer (some ⟨B3,0,none⟩),.pointer (some ⟨B5,0,none⟩)]] w (FindK m k all w):=by
 have HK:=Lib.hid (fun wx (g:Below w.heap.size w wx) (v:Nat) (hv:v<m.vers.length)=>kindIs_any m p k B3 B5 v wx (h.below g) hv hvl)
 have HR:=Lib.hid (fun (wx:World) (g:Below w.heap.size w wx)=>(hr.below g).len)
 have HIn:=Lib.hid hin
 obtain ⟨a,c,rfl,hc,_⟩:=hr.len
 obtain ⟨n,hn⟩:∃ n,all.length=n:=⟨_,rfl⟩
 have HN:=Lib.hid hn
 rw [hn] at hl hc ⊢
 clear h hr hin hn
 go_enter Tryz.func171,Tryz.ntmps171
 go_wp2_with fail
 go_loopw [8] (fun i wr=>∃ k':Nat,k'≤n∧i=.int .i64 k'∧Below w.heap.size w wr∧∀ j (hj:j<all.length),j<k'→(kdA m all[j] == k)=false) (fun i _=>n - (intOf i).toNat)
 case atStart=>exact ⟨0,by omega,rfl,Below.refl _ _,fun j _ hj=>by omega⟩
 case round =>
  obtain ⟨wo,rfl⟩:∃ wo:World,wo=wr:=⟨_,rfl⟩
  obtain ⟨i,hi,rfl,hb,hno⟩:=hrel
  have HB:=Lib.hid hb
  have HNo:=Lib.hid hno
  clear hb hno
  by_cases hlt:i<n
  · have hil:i<all.length:=by rw [HN.out];exact hlt
    obtain ⟨a',c',e,_,q⟩:=HR.out wo HB.out
    obtain ⟨b1,o1,ea,hbl,hcl⟩:=q i hil
    simp only [Value.slice.injEq] at e
    obtain ⟨rfl,e',rfl⟩:=e
    clear e'
    subst ea
    have hI:(i:Int)<(n:Int):=by omega
    have hI0:(0:Int)≤(i:Int):=by omega
    obtain ⟨v,hv,ev⟩:=HIn.out i hil
    have HKv:=Lib.hid (HK.out wo HB.out v hv)
    have HS:Hid (∀ b,(m.vers[v].kd == k)=b→(b=true→all.find? (fun v=>kdA m v == k)=some (all[i]'hil))∧(b=false→∀ j (hj:j<all.length),j<i+1→(kdA m all[j] == k)=false)):=fun b hb=>⟨fun ht=>find_first hil (by rw [ev,kdA_at hv,hb,ht]) HNo.out,fun hf j hj hji=>by
      by_cases e:j=i
      · subst e;rw [ev,kdA_at hv,hb,hf]
      · exact HNo.out j hj (by omega)⟩
    rw [ev] at hcl
    obtain ⟨b,hb⟩:∃ b,(m.vers[v].kd == k)=b:=⟨_,rfl⟩
    rw [hb] at HKv
    have HSb:=Lib.hid (HS.out b hb)
    have HIl:=Lib.hid hil
    clear q hb HS ev
    cases b with
    | true =>
     go_wp2_with fail
     (with_reducible refine (HKv.out).mono ?_)
     rintro e w5 ⟨rfl,g5⟩
     go_wp2_with fail
     go_ret
     exact ⟨_,rfl,below_chF HB.out g5,.inr ⟨i,HIl.out,rfl,HSb.out.1 (by trivial)⟩⟩
    | false =>
     go_wp2_with fail
     (with_reducible refine (HKv.out).mono ?_)
     rintro e w5 ⟨rfl,g5⟩
     go_wp2_with fail
     go_roundw
     case rel=>exact ⟨i+1,by omega,by go_num,below_chF HB.out g5,HSb.out.2 (by trivial)⟩
     case measure=>simp [intOf] <;> omega
  · have hA:Hid (all.find? (fun v=>kdA m v == k)=none):=Lib.hid (by
      rw [List.find?_eq_none]
      intro x hx
      obtain ⟨j,hj,rfl⟩:=List.getElem_of_mem hx
      rw [HNo.out j hj (by have:=HN.out;omega)];simp)
    go_wp2_with fail
    go_ret
    exact ⟨-1,rfl,HB.out,.inl ⟨rfl,hA.out⟩⟩
set_option maxRecDepth 100000 in
set_option maxHeartbeats 2000000 in
theorem least_any {B:Nat} (m:MdlD) (p:Ph) (IB B7 B3 r k:Nat) (w:World) (h:Mod anyM w m p) (hbox:Box w B3 (.string m.nm) (.slice p.a1 m.vars.length p.c1) (.slice p.a2 m.evs.length p.c2) (.slice p.a3 m.regs.length p.c3) (.slice p.a4 m.vers.length p.c4) (.slice p.a5 m.trns.length p.c5)) (hi:IdxAt B m IB w) (h7:w.cell? ⟨B7,0,none⟩=some (.pointer (some ⟨IB,0,none⟩))) (h0:riM m=(0,0,0)) (hvl:m.vers.length≤100000) :
   Calls Tryz.prog 214 #[.int .i64 (r:Int),.int .u8 (k:Int),.pointer (some ⟨B7,0,none⟩),.pointer (some ⟨B3,0,none⟩)] w fun e w'=>e=.returned (.int .i64 (lstM m r k))∧Below w.heap.size w w':=by
 have hz7:=World.block_lt_of_cell? w _ h7
 have HKd:=Lib.hid ((kids_any (hi.grown (below_al1 w (.cells #[.int .u8 (k:Int)] 5))) r (by omega)).mono (fun e w' (q:RowP (kidsR m r) (w.alloc (.cells #[.int .u8 (k:Int)] 5)) e w')=>(show RowP (kidsM m r) (w.alloc (.cells #[.int .u8 (k:Int)] 5)) e w' by rw [← kidsR_eq h0];exact q)))
 have HX:Hid (Kx m p k B3 w.heap.size (w.alloc (.cells #[.int .u8 (k:Int)] 5))):=Lib.hid ⟨h.below (below_al1 w _),hbox.below (below_al1 w _) hbox.sl,by simp,by simp⟩
 have HF:=Lib.hid (fun wx (g:Kx m p k B3 w.heap.size wx) (av:Value) (hr:RowIn wx av (kidsM m r))=>indexK_any m p k B3 w.heap.size (kidsM m r) av wx g hr (by have:=sel_len (isKid r) m.vers;have e:(kidsM m r).length≤m.vers.length:=this;omega) (fun j hj=>by
   obtain ⟨q,hq,e,_⟩:=(sel_mem _ _ _).1 (List.getElem_mem hj)
   exact ⟨q,hq,e⟩) hvl)
 have HL:Hid (lstM m r k=((kidsM m r).find? (fun v=>kdA m v == k)).getD (-1)):=Lib.hid rfl
 have hlen:(kidsM m r).length≤100000:=by have:=sel_len (isKid r) m.vers;have e:(kidsM m r).length≤m.vers.length:=this;omega
 generalize lstM m r k=R at HL ⊢
 generalize kidsM m r=K at *
 clear h hbox hi
 go_enter Tryz.func214,Tryz.ntmps214
 go_wp2_with fail
 (with_reducible refine (HKd.out).mono ?_)
 rintro e w3 ⟨v3,rfl,o3,g3⟩
 have R3:=Lib.hid (RowIn.own o3)
 have HX3:=Lib.hid (HX.out.below g3)
 clear o3 HKd HX
 go_wp2_with fail
 (with_reducible refine (HF.out _ HX3.out _ R3.out).mono ?_)
 rintro e w4 ⟨i,rfl,g4,hq⟩
 have R4:=Lib.hid ((R3.out.below g4).len)
 have HB4:Hid (Below w.heap.size w w4):=Lib.hid (below_bx1 (below_chF g3 g4))
 obtain ⟨a,c,rfl,hc,_⟩:=R3.out.len
 clear g3 g4 R3 HX3 HF h7
 rcases hq with ⟨rfl,hf⟩ | ⟨j,hj,rfl,hf⟩
 · have hR:Hid (R=-1):=Lib.hid (by rw [HL.out,hf];rfl)
   clear hf HL
   go_wp2_with fail
   go_ret
   exact ⟨by rw [hR.out];first | done | rfl,HB4.out⟩
 · have hR:Hid (R=K[j]):=Lib.hid (by rw [HL.out,hf];rfl)
   obtain ⟨a',c',e,_,q⟩:=R4.out
   obtain ⟨b1,o1,ea,hbl,hcl⟩:=q j hj
   simp only [Value.slice.injEq] at e
   obtain ⟨rfl,e',rfl⟩:=e
   clear e'
   subst ea
   have hI:(j:Int)<(K.length:Int):=by omega
   have hI0:(0:Int)≤(j:Int):=by omega
   have hI1:¬ ((j:Int)<0):=by omega
   obtain ⟨y,hy⟩:∃ y,K[j]=y:=⟨_,rfl⟩
   rw [hy] at hcl hR
   clear hf HL q hy
   go_wp2_with fail
   go_ret
   exact ⟨by rw [hR.out];first | done | rfl,HB4.out⟩
theorem own_low {w w':World} {base NW:Nat} {e:TypeId} {size:Nat} {v:Value} {n:Nat} {xs:List Value} (h:w.ownsRow base e size v n xs) (hg:∀ g,v.ownBlock=some g→g<NW) (hb:Below NW w w'):w'.ownsRow base e size v n xs:=by
 refine ⟨h.1,?_⟩
 rcases h.2 with hn | ⟨g,cap,cur,rfl,hb',hgg,rest⟩
 · exact .inl hn
 · exact .inr ⟨g,cap,cur,rfl,hb',(hb.block g (hg g rfl)).trans hgg,rest⟩
structure FS (m:MdlD) (p:Ph) (IB g1 cap1:Nat) (v2:Value) (ll d:List Int) (w w3 wI:World) (NW:Nat) (wr:World):Prop where
 bel:Below w.heap.size w wr
 kI:∀ b,w3.heap.size≤b→b<wI.heap.size→wr.heap[b]? = wI.heap[b]?
 bm:Box wr w.heap.size (.string m.nm) (.slice p.a1 m.vars.length p.c1) (.slice p.a2 m.evs.length p.c2) (.slice p.a3 m.regs.length p.c3) (.slice p.a4 m.vers.length p.c4) (.slice p.a5 m.trns.length p.c5)
 c0:wr.cell? ⟨w.heap.size+1,0,none⟩=some (.slice (some ⟨g1,0,none⟩) d.length cap1)
 c1:wr.cell? ⟨w.heap.size+1,1,none⟩=some v2
 r0:wr.cell? ⟨w.heap.size+1+1,0,none⟩=some (.slice none 0 0)
 r1:wr.cell? ⟨w.heap.size+1+1,1,none⟩=some (.slice none 0 0)
 q0:wr.frozen? ⟨w.heap.size+1+1,0,none⟩=false
 q1:wr.frozen? ⟨w.heap.size+1+1,1,none⟩=false
 c7:wr.cell? ⟨wI.heap.size,0,none⟩=some (.pointer (some ⟨IB,0,none⟩))
 o1:wr.ownsRow (wI.heap.size+1) 3 1 (.slice (some ⟨g1,0,none⟩) d.length cap1) d.length (nums d)
 o2:wr.ownsRow (wI.heap.size+1) 3 1 v2 ll.length (nums ll)
 l1:g1<NW
 l2:∀ g,v2.ownBlock=some g→g<NW∧g≠g1
 lI:wI.heap.size<NW
 lN:NW≤wr.heap.size
 l3:w.heap.size+1+1<w3.heap.size
 l4:w3.heap.size≤wI.heap.size
section
variable {m:MdlD} {p:Ph} {IB g1 cap1:Nat} {v2:Value} {ll d:List Int} {w w3 wI:World} {NW:Nat} {wr wy:World}
theorem FS.low (h:FS m p IB g1 cap1 v2 ll d w w3 wI NW wr) (g:Below NW wr wy):FS m p IB g1 cap1 v2 ll d w w3 wI NW wy:=by
 have a1:=h.lI
 have a2:=h.l3
 have a3:=h.l4
 exact ⟨h.bel.trans (g.mono (by omega)),fun b hb hl=>(g.block b (by omega)).trans (h.kI b hb hl),h.bm.below g (by omega),(g.cell (p:=⟨w.heap.size+1,0,none⟩) (by first | omega | (simp only;omega))).trans h.c0,(g.cell (p:=⟨w.heap.size+1,1,none⟩) (by first | omega | (simp only;omega))).trans h.c1,(g.cell (p:=⟨w.heap.size+1+1,0,none⟩) (by first | omega | (simp only;omega))).trans h.r0,(g.cell (p:=⟨w.heap.size+1+1,1,none⟩) (by first | omega | (simp only;omega))).trans h.r1,(g.frozen (p:=⟨w.heap.size+1+1,0,none⟩) (by first | omega | (simp only;omega))).trans h.q0,(g.frozen (p:=⟨w.heap.size+1+1,1,none⟩) (by first | omega | (simp only;omega))).trans h.q1,(g.cell (p:=⟨wI.heap.size,0,none⟩) (by first | omega | (simp only;omega))).trans h.c7,own_low h.o1 (fun g hg=>by injection hg with hg;subst hg;exact h.l1) g,own_low h.o2 (fun q hq=>(h.l2 q hq).1) g,h.l1,h.l2,h.lI,Nat.le_trans h.lN g.size,h.l3,h.l4⟩
theorem FS.put (h:FS m p IB g1 cap1 v2 ll d w w3 wI NW wr) (r:Nat) (x:Int) (hr:r<d.length):FS m p IB g1 cap1 v2 ll (d.set r x) w w3 wI NW (wr.setCell ⟨g1,r,none⟩ (.int .i64 x)):=by
 have a0:=(h.o1.lt g1 rfl).1
 have a1:=h.lI
 have a2:=h.l3
 have a3:=h.l4
 have hb:∀ b,b≠g1→(wr.setCell ⟨g1,r,none⟩ (.int .i64 x)).heap[b]? = wr.heap[b]? := fun b hb=>Below.heap_setCell _ _ _ _ hb
 have hc:∀ b k,b≠g1→(wr.setCell ⟨g1,r,none⟩ (.int .i64 x)).cell? ⟨b,k,none⟩=wr.cell? ⟨b,k,none⟩:=fun b k h=>World.cell?_of_block (w:=wr) (hb b h)
 have e:nums (d.set r x)=(nums d).set r (.int .i64 x):=by simp [nums,List.map_set]
 refine ⟨h.bel.setCell (p:=⟨g1,r,none⟩) (by first | omega | (simp only;omega)) _,fun b hb' hl=>(hb b (by omega)).trans (h.kI b hb' hl),h.bm.far _ (by first | omega | (simp only;omega)),?_,(hc _ _ (by omega)).trans h.c1,(hc _ _ (by omega)).trans h.r0,(hc _ _ (by omega)).trans h.r1,by rw [World.frozen?_setCell];exact h.q0,by rw [World.frozen?_setCell];exact h.q1,(hc _ _ (by omega)).trans h.c7,?_,?_,h.l1,h.l2,h.lI,by rw [World.size_setCell];exact h.lN,h.l3,h.l4⟩
 · rw [List.length_set];exact (hc _ _ (by omega)).trans h.c0
 · rw [List.length_set,e];exact (h.o1.stored r (.int .i64 x)).1
 · exact ownsRow_setCell_other h.o2 (fun e=>(h.l2 g1 e).2 rfl) _
end
theorem ownsRow_capG {N T n c:Nat} {a:Option Addr} {w:World} {xs:List Value} (h:w.ownsRow N T 1 (.slice a n c) n xs):n≤c:=by
 rcases h.2 with ⟨e,h0⟩ | ⟨g',c',_,e,_,_,hc,_⟩
 · omega
 · simp only [Value.slice.injEq] at e;omega
def rngL (k:Nat):List Int:=(List.range k).map fun r:Nat=>(r:Int)
theorem rngL_len (k:Nat):(rngL k).length=k:=by unfold rngL;rw [List.length_map,List.length_range]
theorem rngL_succ (k:Nat):rngL (k+1)=rngL k ++ [(k:Int)]:=by unfold rngL;rw [List.range_succ,List.map_append];rfl
theorem push_lowG {N:Nat} {T:TypeId} {w W':World} {v:Value} {l:List Int} {o:Obj} (hz:N≤w.heap.size) (ho:w.ownsRow N T 1 v l.length (nums l)) (hg:(w.alloc o).grownBy W' v.ownBlock):Below N w W' :=
 ((Below.refl N w).alloc hz o).grown hg (by simp;omega) fun q hq=>(ho.lt q hq).1
def FillP (m:MdlD) (la ll:List Int) (w:World) (e:Ending) (w':World):Prop:=Below w.heap.size w w'∧((chkE m la ll≠0∧e=.returned (.tuple #[.agg #[.slice none 0 0,.slice none 0 0],.int .i64 (chkE m la ll:Int)])) ∨
 (chkE m la ll=0∧∃ d v1 v2,e=.returned (.tuple #[.agg #[v1,v2],.int .i64 0])∧Fld m la d∧Nrm m d∧w'.ownsRow w.heap.size 3 1 v1 d.length (nums d)∧w'.ownsRow w.heap.size 3 1 v2 ll.length (nums ll)∧∀ g,v1.ownBlock=some g→v2.ownBlock≠some g))
structure WS (m:MdlD) (la:List Int) (i:Nat) (L d:List Int):Prop where
 fld:Fld m la d
 all:∀ r:Nat,r<m.regs.length→fillM m d r=true→∃ j,i≤j∧L[j]? = some (r:Int)
 inn:∀ x ∈ L,∃ r:Nat,r<m.regs.length∧x=(r:Int)
 len:L.length+m.regs.length * empN d≤m.regs.length+m.regs.length * m.regs.length
theorem WS.skip {m:MdlD} {la L d:List Int} {i r:Nat} (h:WS m la i L d) (hi:L[i]? = some (r:Int)) (hf:fillM m d r=false):WS m la (i+1) L d :=
 ⟨h.fld,fun q hq hq'=>by
   obtain ⟨j,hj,e⟩:=h.all q hq hq'
   by_cases hji:j=i
   · subst hji
     rw [hi] at e
     simp only [Option.some.injEq] at e
     obtain rfl:r=q:=by omega
     rw [hf] at hq';cases hq'
   · exact ⟨j,by omega,e⟩,h.inn,h.len⟩
theorem WS.fill {m:MdlD} (h0:riM m=(0,0,0)) {la L d:List Int} {i r:Nat} (hl:la.length=m.regs.length) (h:WS m la i L d) (hi:L[i]? = some (r:Int)) (hr:r<m.regs.length) (hf:fillM m d r=true):WS m la (i+1) (L ++ ownM m (leastM m r)) (d.set r (leastM m r)):=by
 have hdl:r<d.length:=by rw [h.fld.len,hl];exact hr
 obtain ⟨f1,f2,f3⟩:=fill_at hf
 have hown:(ownM m (leastM m r)).length≤m.regs.length:=sel_len _ _
 refine ⟨h.fld.step hr hf,fun q hq hq'=>?_,fun x hx=>?_,?_⟩
 · obtain ⟨hne,hor⟩:=fill_new hdl f2 hq'
   rcases hor with h1 | h1
   · obtain ⟨j,hj,e⟩:=h.all q hq h1
     have hji:j≠i:=fun e2=>by
       subst e2
       rw [hi] at e
       simp only [Option.some.injEq] at e
       omega
     exact ⟨j,by omega,by rw [List.getElem?_append_left (List.getElem?_eq_some_iff.1 e).1];exact e⟩
   · have hm:(q:Int) ∈ ownM m (leastM m r):=by
       rw [ownA_at hq] at h1
       exact (sel_mem _ _ _).2 ⟨q,hq,rfl,by simp [isOwn,h1]⟩
     obtain ⟨j,hj,e⟩:=List.getElem_of_mem hm
     have hil:=(List.getElem?_eq_some_iff.1 hi).1
     exact ⟨L.length+j,by omega,by rw [List.getElem?_append_right (by omega),Nat.add_sub_cancel_left,List.getElem?_eq_getElem hj,e]⟩
 · rcases List.mem_append.1 hx with hx | hx
   · exact h.inn x hx
   · obtain ⟨q,hq,e,_⟩:=(sel_mem _ _ _).1 hx
     exact ⟨q,hq,e⟩
 · have he:=emp_step hdl hf
   have:=h.len
   rw [List.length_append]
   have h2:m.regs.length * empN (d.set r (leastM m r))+m.regs.length≤m.regs.length * empN d:=by
     calc m.regs.length * empN (d.set r (leastM m r))+m.regs.length=m.regs.length * (empN (d.set r (leastM m r))+1):=by rw [Nat.mul_add,Nat.mul_one]
       _≤m.regs.length * empN d:=Nat.mul_le_mul_left _ he
   omega
theorem WS.first {m:MdlD} {la:List Int} (hl:la.length=m.regs.length):WS m la 0 ((List.range m.regs.length).map fun r:Nat=>(r:Int)) la :=
 ⟨.refl,fun r hr _=>⟨r,Nat.zero_le _,by simp [hr]⟩,fun x hx=>by
   obtain ⟨r,hr,rfl⟩:=List.mem_map.1 hx
   exact ⟨r,List.mem_range.1 hr,rfl⟩,by
   rw [List.length_map,List.length_range]
   have:=emp_le la
   have h2:m.regs.length * empN la≤m.regs.length * m.regs.length:=Nat.mul_le_mul_left _ (by omega)
   omega⟩
theorem WS.last {m:MdlD} {la L d:List Int} (h:WS m la L.length L d):Nrm m d:=fun r hr=>by
 cases hf:fillM m d r with
 | false=>rfl
 | true =>
  obtain ⟨j,hj,e⟩:=h.all r hr hf
  have:=(List.getElem?_eq_some_iff.1 e).1
  omega
def CutF (m:MdlD) (p:Ph) (IB:Nat) (la ll:List Int) (w w3 wI wx:World):Prop:=∃ g1 cap1 v2,FS m p IB g1 cap1 v2 ll la w w3 wI wx.heap.size wx
theorem fs_made {m:MdlD} {p:Ph} {IB:Nat} {la ll:List Int} {a1 a2:Option Addr} {c1 c2:Nat} {w w4 w5 wF:World} {v1 v2:Value} (hC:Mc m p la ll a1 a2 c1 c2 w w5)
   (t:w5.cell? ⟨w.heap.size+1+1,0,none⟩=some (.slice none 0 0)∧w5.cell? ⟨w.heap.size+1+1,1,none⟩=some (.slice none 0 0)∧w5.frozen? ⟨w.heap.size+1+1,0,none⟩=false∧w5.frozen? ⟨w.heap.size+1+1,1,none⟩=false)
   (hz4:w.heap.size+1+1<w4.heap.size) (hz5:w4.heap.size≤w5.heap.size)
   (gF:Below (w5.alloc (.cells #[.pointer (some ⟨IB,0,none⟩)] 45)).heap.size (w5.alloc (.cells #[.pointer (some ⟨IB,0,none⟩)] 45)) wF)
   (o1:wF.ownsRow (w5.heap.size+1) 3 1 v1 la.length (nums la)) (o2:wF.ownsRow (w5.heap.size+1) 3 1 v2 ll.length (nums ll)) (hp:0<la.length) (hd:∀ g,v1.ownBlock=some g→v2.ownBlock≠some g) :
   CutF m p IB la ll w w4 w5 ((wF.setCell ⟨w.heap.size+1,0,none⟩ v1).setCell ⟨w.heap.size+1,1,none⟩ v2):=by
 obtain ⟨g1,cap1,rfl⟩:=ownsRow_pos o1 hp
 have g5:Below w5.heap.size w5 wF:=below_bx1 gF
 have hz6:w5.heap.size+1≤wF.heap.size:=by have:=gF.size;simp at this;omega
 have l1:=o1.lt g1 rfl
 have hb:∀ b,b≠w.heap.size+1→((wF.setCell ⟨w.heap.size+1,0,none⟩ (.slice (some ⟨g1,0,none⟩) la.length cap1)).setCell ⟨w.heap.size+1,1,none⟩ v2).heap[b]? = wF.heap[b]? := fun b h=>(Below.heap_setCell _ _ _ _ h).trans (Below.heap_setCell _ _ _ _ h)
 have hc:∀ b k,b≠w.heap.size+1→((wF.setCell ⟨w.heap.size+1,0,none⟩ (.slice (some ⟨g1,0,none⟩) la.length cap1)).setCell ⟨w.heap.size+1,1,none⟩ v2).cell? ⟨b,k,none⟩=wF.cell? ⟨b,k,none⟩:=fun b k h=>World.cell?_of_block (w:=wF) (hb b h)
 have hCF:=hC.below g5
 have d1':(wF.setCell ⟨w.heap.size+1,0,none⟩ (.slice (some ⟨g1,0,none⟩) la.length cap1)).cell? ⟨w.heap.size+1,1,none⟩=some (.slice a2 ll.length c2):=by rw [World.cell?_setCell_other _ _ _ _ (by simp)];exact hCF.d1
 have c7:wF.cell? ⟨w5.heap.size,0,none⟩=some (.pointer (some ⟨IB,0,none⟩)):=(gF.cell (p:=⟨w5.heap.size,0,none⟩) (by simp)).trans (by simp)
 obtain ⟨t0,t1,t2,t3⟩:=t
 refine ⟨g1,cap1,v2,(hCF.mb.bel.setCell (p:=⟨w.heap.size+1,0,none⟩) (by simp) _).setCell (p:=⟨w.heap.size+1,1,none⟩) (by simp) _,fun b hb1 hb2=>(hb b (by omega)).trans (g5.block b hb2),(hCF.mb.box.far _ (by simp)).far _ (by simp),?_,World.cell?_setCell_same _ _ _ d1',(hc _ _ (by omega)).trans ((g5.cell (p:=⟨w.heap.size+1+1,0,none⟩) (by first | omega | (simp only;omega))).trans t0),(hc _ _ (by omega)).trans ((g5.cell (p:=⟨w.heap.size+1+1,1,none⟩) (by first | omega | (simp only;omega))).trans t1),?_,?_,(hc _ _ (by omega)).trans c7,?_,?_,?_,fun g hg=>⟨?_,fun e=>hd g1 rfl (by rw [hg,e])⟩,?_,Nat.le_refl _,hz4,hz5⟩
 · rw [World.cell?_setCell_other _ _ _ _ (by simp)];exact World.cell?_setCell_same _ _ _ hCF.d0
 · rw [World.frozen?_setCell,World.frozen?_setCell];exact (g5.frozen (p:=⟨w.heap.size+1+1,0,none⟩) (by first | omega | (simp only;omega))).trans t2
 · rw [World.frozen?_setCell,World.frozen?_setCell];exact (g5.frozen (p:=⟨w.heap.size+1+1,1,none⟩) (by first | omega | (simp only;omega))).trans t3
 · exact ownsRow_setCell_below (a:=⟨w.heap.size+1,1,none⟩) (ownsRow_setCell_below (a:=⟨w.heap.size+1,0,none⟩) o1 (by first | omega | (simp only;omega)) _) (by first | omega | (simp only;omega)) _
 · exact ownsRow_setCell_below (a:=⟨w.heap.size+1,1,none⟩) (ownsRow_setCell_below (a:=⟨w.heap.size+1,0,none⟩) o2 (by first | omega | (simp only;omega)) _) (by first | omega | (simp only;omega)) _
 · rw [World.size_setCell,World.size_setCell];exact l1.2
 · rw [World.size_setCell,World.size_setCell];exact (o2.lt g hg).2
 · rw [World.size_setCell,World.size_setCell];omega
theorem frz_blk {w:World} {b:Nat} {cs:Array Value} {T:TypeId} (h:w.heap[b]? = some (.cells cs T (0,0))) (k:Nat):w.frozen? ⟨b,k,none⟩=false:=by
 unfold World.frozen?;simp [h]
set_option maxRecDepth 100000 in
set_option maxHeartbeats 8000000 in
theorem fill_any {Q:Nat→BP} (m:MdlD) (p:Ph) (la ll:List Int) (a1 a2:Option Addr) (c1 c2:Nat) (w:World) (h:Mod Q w m p) (hm:MdlOk m) (hT:Tab w) (h1:RowIn w (.slice a1 la.length c1) la) (h2:RowIn w (.slice a2 ll.length c2) ll) (b1:la.length≤140737488355328) (b2:ll.length≤140737488355328)
   (hv:m.vers.length≤512) (hr:m.regs.length≤100) (ht:m.trns.length≤512) :
   Calls Tryz.prog 121 #[mdV m p,.agg #[.slice a1 la.length c1,.slice a2 ll.length c2]] w (FillP m la ll w):=by
 obtain ⟨iI,hiI,zI0,zI1,zI2⟩:=info_parts info_Num
 have HC:Hid (Mc m p la ll a1 a2 c1 c2 w (((w.alloc (.cells #[.string m.nm,.slice p.a1 m.vars.length p.c1,.slice p.a2 m.evs.length p.c2,.slice p.a3 m.regs.length p.c3,.slice p.a4 m.vers.length p.c4,.slice p.a5 m.trns.length p.c5] 28)).alloc (.cells #[.slice a1 la.length c1,.slice a2 ll.length c2] 74)).alloc (.cells #[.slice none 0 0,.slice none 0 0] 74))):=Lib.hid ((Mc.made h h1 h2).below (below_al1 _ _))
 have hy0:((((w.alloc (.cells #[.string m.nm,.slice p.a1 m.vars.length p.c1,.slice p.a2 m.evs.length p.c2,.slice p.a3 m.regs.length p.c3,.slice p.a4 m.vers.length p.c4,.slice p.a5 m.trns.length p.c5] 28)).alloc (.cells #[.slice a1 la.length c1,.slice a2 ll.length c2] 74)).alloc (.cells #[.slice none 0 0,.slice none 0 0] 74))).heap.size=w.heap.size+1+1+1:=by simp
 have hy1:((((w.alloc (.cells #[.string m.nm,.slice p.a1 m.vars.length p.c1,.slice p.a2 m.evs.length p.c2,.slice p.a3 m.regs.length p.c3,.slice p.a4 m.vers.length p.c4,.slice p.a5 m.trns.length p.c5] 28)).alloc (.cells #[.slice a1 la.length c1,.slice a2 ll.length c2] 74)).alloc (.cells #[.slice none 0 0,.slice none 0 0] 74))).heap[w.heap.size+1+1]? = some (.cells #[.slice none 0 0,.slice none 0 0] 74 (0,0)):=by
   have:=World.alloc_heap_new ((w.alloc (.cells #[.string m.nm,.slice p.a1 m.vars.length p.c1,.slice p.a2 m.evs.length p.c2,.slice p.a3 m.regs.length p.c3,.slice p.a4 m.vers.length p.c4,.slice p.a5 m.trns.length p.c5] 28)).alloc (.cells #[.slice a1 la.length c1,.slice a2 ll.length c2] 74)) (.cells #[.slice none 0 0,.slice none 0 0] 74)
   rw [World.size_alloc,World.size_alloc] at this;exact this
 have hy2:((((w.alloc (.cells #[.string m.nm,.slice p.a1 m.vars.length p.c1,.slice p.a2 m.evs.length p.c2,.slice p.a3 m.regs.length p.c3,.slice p.a4 m.vers.length p.c4,.slice p.a5 m.trns.length p.c5] 28)).alloc (.cells #[.slice a1 la.length c1,.slice a2 ll.length c2] 74)).alloc (.cells #[.slice none 0 0,.slice none 0 0] 74))).heap[w.heap.size+1]? = some (.cells #[.slice a1 la.length c1,.slice a2 ll.length c2] 74 (0,0)):=by
   have h1:=World.alloc_heap_new (w.alloc (.cells #[.string m.nm,.slice p.a1 m.vars.length p.c1,.slice p.a2 m.evs.length p.c2,.slice p.a3 m.regs.length p.c3,.slice p.a4 m.vers.length p.c4,.slice p.a5 m.trns.length p.c5] 28)) (.cells #[.slice a1 la.length c1,.slice a2 ll.length c2] 74)
   rw [World.size_alloc] at h1
   exact ((below_al1 _ _).block (w.heap.size+1) (by simp)).trans h1
 have HRs:Hid (∀ wx,Below (w.heap.size+1+1+1) (((w.alloc (.cells #[.string m.nm,.slice p.a1 m.vars.length p.c1,.slice p.a2 m.evs.length p.c2,.slice p.a3 m.regs.length p.c3,.slice p.a4 m.vers.length p.c4,.slice p.a5 m.trns.length p.c5] 28)).alloc (.cells #[.slice a1 la.length c1,.slice a2 ll.length c2] 74)).alloc (.cells #[.slice none 0 0,.slice none 0 0] 74)) wx→wx.cell? ⟨w.heap.size+1+1,0,none⟩=some (.slice none 0 0)∧wx.cell? ⟨w.heap.size+1+1,1,none⟩=some (.slice none 0 0)∧(wx.frozen? ⟨w.heap.size+1+1,0,none⟩=false∧wx.frozen? ⟨w.heap.size+1+1,1,none⟩=false)∧wx.frozen? ⟨w.heap.size+1,0,none⟩=false∧wx.frozen? ⟨w.heap.size+1,1,none⟩=false):=Lib.hid fun wx g=>by
   have e1:=(g.block (w.heap.size+1+1) (by omega)).trans hy1
   have e2:=(g.block (w.heap.size+1) (by omega)).trans hy2
   exact ⟨cell_blk e1 0,cell_blk e1 1,⟨frz_blk e1 0,frz_blk e1 1⟩,frz_blk e2 0,frz_blk e2 1⟩
 clear hy1 hy2
 have FT:=Lib.hid (fun wx (g:Mc m p la ll a1 a2 c1 c2 w wx)=>legalFits_any m p la ll a1 a2 c1 c2 wx g.mb.mod hm (hT.next g.mb.bel) g.r1 g.r2 b1 b2 hv (by omega) ht)
 have NW:=Lib.hid (fun wx (g:Mc m p la ll a1 a2 c1 c2 w wx)=>new_any m p wx g.mb.mod hm (hT.next g.mb.bel) hv (by omega) ht)
 have HM:=Lib.hid (fun wx (g:Below w.heap.size w wx)=>(h.below g).any)
 have HZ:=Lib.hid (fun (h:chkE m la ll=0)=>chk_zero h)
 have HCA:=Lib.hid (fun (hl:la.length=m.regs.length) (hp:0<m.regs.length) wx (g:Mc m p la ll a1 a2 c1 c2 w wx)=>cloneIn g.r1 (by omega) (.inl (fun e=>by rw [e] at hl;simp at hl;omega)))
 have HCL:=Lib.hid (fun (hl:ll.length=m.regs.length) (hp:0<m.regs.length) wx (g:Mc m p la ll a1 a2 c1 c2 w wx)=>cloneIn g.r2 (by omega) (.inl (fun e=>by rw [e] at hl;simp at hl;omega)))
 have BK:=Lib.hid (fun (h0:riM m=(0,0,0)) wx (d:List Int) (g cap:Nat) (v2:Option Addr) (c2:Nat) (hx:Below w.heap.size w wx) (hd:RowIn wx (.slice (some ⟨g,0,none⟩) d.length cap) d) (hl:d.length=m.regs.length) (k:Nat) (hk:k<m.regs.length)=>breaks_any m p d ll (some ⟨g,0,none⟩) v2 cap c2 k wx (h.below hx) h0 hm hd hl hk)
 unfold mdV at FT NW BK ⊢
 unfold FillP
 generalize chkE m la ll=C at *
 have hvl:=hm.vers
 clear h hm hT h1 h2 b1 b2 ht
 go_enter Tryz.func121,Tryz.ntmps121
 obtain ⟨x0,x1,x2,x3,x4,x5,_⟩:=HC.out.mb.box
 go_wp2_with fail
 (with_reducible refine (FT.out _ HC.out).mono ?_)
 rintro e w4 ⟨rfl,g4⟩
 have HC4:=Lib.hid (HC.out.below g4)
 have HR4:=Lib.hid (fun wx (g:Below w4.heap.size w4 wx)=>HRs.out wx ((g4.trans (g.mono g4.size)).mono (Nat.le_of_eq hy0.symm)))
 have hz4:w.heap.size+1+1<w4.heap.size:=by have:=g4.size;rw [hy0] at this;omega
 clear hy0
 clear x0 x1 x2 x3 x4 x5 HC g4 FT HRs
 by_cases hc:C=0
 · obtain ⟨h0,hf1,hf2⟩:=HZ.out hc
   have HL:=Lib.hid (fit1_len' hf1)
   have HLL:=Lib.hid (fit1_len' hf2)
   have hrp:=Lib.hid (regs_pos h0)
   have CA:=Lib.hid (HCA.out HL.out hrp.out)
   have CL:=Lib.hid (HCL.out HLL.out hrp.out)
   have BK0:=Lib.hid (BK.out h0)
   have H0:=Lib.hid h0
   subst hc
   clear HZ hf1 hf2 BK HCA HCL
   obtain ⟨x0,x1,x2,x3,x4,x5,_⟩:=HC4.out.mb.box
   go_wp2_with fail
   (with_reducible refine (NW.out _ HC4.out).mono ?_)
   rintro e w5 ⟨g5,(⟨_,IB,rfl,hi⟩ | ⟨hr',rfl⟩)⟩
   rotate_left
   · exact absurd (by rw [H0.out]) hr'
   have HC5:=Lib.hid (HC4.out.below g5)
   have HI:=Lib.hid hi
   have hz5:w4.heap.size≤w5.heap.size:=g5.size
   obtain ⟨t0,t1,⟨t2,t3⟩,t4,t5⟩:=HR4.out w5 g5
   have HT5:=Lib.hid (And.intro t0 (And.intro t1 (And.intro t2 t3)))
   have HLP:Hid (0<la.length):=Lib.hid (by have:=HL.out;have:=hrp.out;omega)
   clear x0 x1 x2 x3 x4 x5 hi g5 NW h0
   go_upto_region 5 with fail
   have HC6:Hid (Mc m p la ll a1 a2 c1 c2 w (w5.alloc (.cells #[.pointer (some ⟨IB,0,none⟩)] 45))):=Lib.hid (HC5.out.below (below_al1 w5 _))
   have HMade:Hid (∀ (wF:World) (v1 v2:Value),Below (w5.alloc (.cells #[.pointer (some ⟨IB,0,none⟩)] 45)).heap.size (w5.alloc (.cells #[.pointer (some ⟨IB,0,none⟩)] 45)) wF→wF.ownsRow (w5.heap.size+1) 3 1 v1 la.length (nums la)→wF.ownsRow (w5.heap.size+1) 3 1 v2 ll.length (nums ll)→(∀ g,v1.ownBlock=some g→v2.ownBlock≠some g)→CutF m p IB la ll w w4 w5 ((wF.setCell ⟨w.heap.size+1,0,none⟩ v1).setCell ⟨w.heap.size+1,1,none⟩ v2)):=Lib.hid fun wF v1 v2 gF o1 o2 hd=>fs_made HC5.out HT5.out hz4 hz5 gF o1 o2 HLP.out hd
   have f0:(w5.alloc (.cells #[.pointer (some ⟨IB,0,none⟩)] 45)).frozen? ⟨w.heap.size+1,0,none⟩=false:=((below_al1 w5 _).frozen (p:=⟨w.heap.size+1,0,none⟩) (by first | omega | (simp only;omega))).trans t4
   have f1:(w5.alloc (.cells #[.pointer (some ⟨IB,0,none⟩)] 45)).frozen? ⟨w.heap.size+1,1,none⟩=false:=((below_al1 w5 _).frozen (p:=⟨w.heap.size+1,1,none⟩) (by first | omega | (simp only;omega))).trans t5
   have hz6:Hid ((w5.alloc (.cells #[.pointer (some ⟨IB,0,none⟩)] 45)).heap.size=w5.heap.size+1):=Lib.hid (by simp)
   clear t0 t1 t2 t3 t4 t5
   generalize w5.alloc (.cells #[.pointer (some ⟨IB,0,none⟩)] 45)=W6 at *
   go_cut [] (fun wx=>CutF m p IB la ll w w4 w5 wx)
   case first =>
    have d0:=HC6.out.d0
    have d1:=HC6.out.d1
    have HSS:Hid (∀ W',Below W6.heap.size W6 W'→W'.cell? ⟨w.heap.size+1,0,none⟩=some (.slice a1 la.length c1)∧W'.cell? ⟨w.heap.size+1,1,none⟩=some (.slice a2 ll.length c2)∧W'.frozen? ⟨w.heap.size+1,0,none⟩=false∧W'.frozen? ⟨w.heap.size+1,1,none⟩=false):=Lib.hid fun W' g =>
      ⟨(HC6.out.below g).d0,(HC6.out.below g).d1,(g.frozen (p:=⟨w.heap.size+1,0,none⟩) HC6.out.sz).trans f0,(g.frozen (p:=⟨w.heap.size+1,1,none⟩) HC6.out.sz).trans f1⟩
    have CA6:=Lib.hid (fun W' (g:Below W6.heap.size W6 W')=>CA.out W' (HC6.out.below g))
    have CL6:=Lib.hid (fun W' (g:Below W6.heap.size W6 W')=>CL.out W' (HC6.out.below g))
    have hB0:Below W6.heap.size W6 W6:=Below.refl _ _
    clear f0 f1 d0 d1 CA CL BK0
    refine wp_region_any (by kernel_rfl) ?_
    change wpAny _ _ _ _ _ _ _ (World.drew _)
    refine wpAny_sink (n:=7) (o:=⟨none,.store 74 (.tmp 3) (.tmp 34),0, "legal.go:82", #[⟨6,.data⟩,⟨5,.chain⟩,⟨0,.phase⟩,⟨1,.phase⟩,⟨2,.phase⟩,⟨3,.phase⟩,⟨4,.phase⟩,⟨5,.phase⟩,⟨6,.phase⟩],none⟩) (ops':=#[⟨some 28,.fieldAddr 74 (.tmp 3) 0,0, "legal.go:82", #[],none⟩,⟨some 29,.load 31 (.tmp 28),31, "legal.go:82", #[⟨0,.data⟩],none⟩,⟨some 30,.call { callee:=.value (.func 73),args:=#[.tmp 29],argTypes:=#[31] },31, "legal.go:82", #[⟨1,.data⟩],none⟩,⟨some 31,.fieldAddr 74 (.tmp 3) 1,0, "legal.go:82", #[],none⟩,⟨some 32,.load 31 (.tmp 31),31, "legal.go:82", #[⟨3,.data⟩],none⟩,⟨some 33,.call { callee:=.value (.func 73),args:=#[.tmp 32],argTypes:=#[31] },31, "legal.go:82", #[⟨4,.data⟩,⟨2,.chain⟩],none⟩,⟨some 34,.build 74 #[(0,.tmp 30),(1,.tmp 33)],74, "legal.go:82", #[⟨2,.data⟩,⟨5,.data⟩],none⟩]) (by decide) (by kernel_rfl) (by rfl) (by rfl) ?_
    refine wpAny_of_heldS (S:=(fun W'=>W'.cell? ⟨w.heap.size+1,0,none⟩=some (.slice a1 la.length c1)∧W'.cell? ⟨w.heap.size+1,1,none⟩=some (.slice a2 ll.length c2)∧W'.frozen? ⟨w.heap.size+1,0,none⟩=false∧W'.frozen? ⟨w.heap.size+1,1,none⟩=false)) ?_ (fun hHeld=>?_)
    · (try dsimp only) <;> (first | exact HSS.out _ hB0.drew | exact HSS.out _ (by assumption))
    refine tk 0 rfl ?_
    try simp only [Act.put,lyA,lyZ,lyS]
    refine tk 1 rfl ?_
    try simp only [Act.put,lyA,lyZ,lyS]
    refine tk 3 rfl ?_
    try simp only [Act.put,lyA,lyZ,lyS]
    refine tk 4 rfl ?_
    try simp only [Act.put,lyA,lyZ,lyS]
    refine rdy [2] ?_
    refine rdC rfl (fun K hK=>?_) ?_
    (go_simp;(with_reducible refine (CA6.out _ (by first | assumption | exact hB0.drew)).mono ?_);rintro e w10 ⟨v10,rfl,o10,hb10⟩;obtain ⟨x10,y10,rfl⟩:=ownsRow_slice o10;have hB10:Below W6.heap.size W6 w10:=below_ch (by first | assumption | exact hB0.drew) hb10;obtain ⟨q0,q1,q2,q3⟩:=HSS.out _ hB10;go_wp2_with fail)
    refine hK.out _ _ ?_ (fun hH1=>?_)
    · (try dsimp only) <;> (first | exact HSS.out _ hB0.drew | exact HSS.out _ (by assumption))
    clear hK K hHeld
    try simp only [Act.put,lyA,lyZ,lyS]
    refine rdy [5] ?_
    refine rdC rfl (fun K hK=>?_) ?_
    (go_simp;(with_reducible refine (CL6.out _ (by first | assumption | exact hB0.drew)).mono ?_);rintro e w11 ⟨v11,rfl,o11,hb11⟩;obtain ⟨x11,y11,rfl⟩:=ownsRow_slice o11;have hB11:Below W6.heap.size W6 w11:=below_ch (by first | assumption | exact hB0.drew) hb11;obtain ⟨q0,q1,q2,q3⟩:=HSS.out _ hB11;go_wp2_with fail)
    refine hK.out _ _ ?_ (fun hH2=>?_)
    · (try dsimp only) <;> (first | exact HSS.out _ hB0.drew | exact HSS.out _ (by assumption))
    clear hK K hH1
    try simp only [Act.put,lyA,lyZ,lyS]
    refine tk 6 rfl ?_
    try simp only [Act.put,lyA,lyZ,lyS]
    refine wpAnyH_done (by kernel_rfl) ?_ _
    rotate_left
    exact AllReadyH.nil
    exact AllReadyH.nil
    all_goals
      refine sinkQ_of fun K hK=>?_
      go_simp
      refine hK _ _ ?_
      clear hK K
      go_wp2_with fail
      go_meet
      first
        | exact HMade.out w11 _ _ hB11 (own_below (o10.mono (by have:=hz6.out;simp;omega)) hb11) (o11.mono (by have:=hz6.out;have:=hB10.size;omega)) (fun g hg hg2=>by have:=(o10.lt g hg).2;have:=(o11.lt g hg2).1;omega)
        | exact HMade.out w10 _ _ hB10 (o10.mono (by have:=hz6.out;have:=hB11.size;omega)) (own_below (o11.mono (by have:=hz6.out;simp;omega)) hb10) (fun g hg hg2=>by have:=(o10.lt g hg).1;have:=(o11.lt g hg2).2;omega)
   case rest =>
    obtain ⟨g1,cap1,v2,hfs⟩:=hcut
    obtain ⟨y2,z2,rfl⟩:=ownsRow_slice hfs.o2
    obtain ⟨N,hNe⟩:∃ N,N=wc.heap.size:=⟨_,rfl⟩
    rw [← hNe] at hfs
    have HFS:=Lib.hid hfs
    have HNe:=Lib.hid hNe
    have BKx:=Lib.hid (fun wx d (g:FS m p IB g1 cap1 (.slice y2 ll.length z2) ll d w w4 w5 N wx) (hd:d.length=m.regs.length) (r:Nat) (hr:r<m.regs.length)=>BK0.out wx d g1 cap1 y2 z2 g.bel (RowIn.own g.o1) hd r hr)
    have LAx:=Lib.hid (fun wx d (g:FS m p IB g1 cap1 (.slice y2 ll.length z2) ll d w w4 w5 N wx) (r k:Nat)=>least_any m p IB w5.heap.size w.heap.size r k wx (HM.out wx g.bel) g.bm (HI.out.keep (by have:=g.lI;have:=g.lN;omega) g.kI) g.c7 H0.out (by omega))
    have LA1:Hid (∀ wx d,FS m p IB g1 cap1 (.slice y2 ll.length z2) ll d w w4 w5 N wx→∀ r:Nat,Calls Tryz.prog 214 #[.int .i64 (r:Int),.int .u8 1,.pointer (some ⟨w5.heap.size,0,none⟩),.pointer (some ⟨w.heap.size,0,none⟩)] wx fun e w'=>e=.returned (.int .i64 (lstM m r 1))∧Below wx.heap.size wx w'):=Lib.hid fun wx d g r=>LAx.out wx d g r 1
    have LA2:Hid (∀ wx d,FS m p IB g1 cap1 (.slice y2 ll.length z2) ll d w w4 w5 N wx→∀ r:Nat,Calls Tryz.prog 214 #[.int .i64 (r:Int),.int .u8 2,.pointer (some ⟨w5.heap.size,0,none⟩),.pointer (some ⟨w.heap.size,0,none⟩)] wx fun e w'=>e=.returned (.int .i64 (lstM m r 2))∧Below wx.heap.size wx w'):=Lib.hid fun wx d g r=>LAx.out wx d g r 2
    have RGx:=Lib.hid (fun wx d (g:FS m p IB g1 cap1 (.slice y2 ll.length z2) ll d w w4 w5 N wx) (v:Nat) (hv:v<m.vers.length)=>regions_any (HI.out.keep (by have:=g.lI;have:=g.lN;omega) g.kI) (v:Int) (WalkArith.wf_i64 ⟨by omega,by omega⟩) (by omega))
    have HLs:=Lib.hid (fun (r k:Nat) (h:0≤lstM m r k)=>lst_at H0.out h)
    have hnn:Hid (m.regs.length * m.regs.length≤10000):=Lib.hid (Nat.mul_le_mul hr hr)
    have HFst:=Lib.hid (WS.first (m:=m) HL.out)
    have HStp:=Lib.hid (fun (L d:List Int) (i r:Nat) (h:WS m la i L d) hi hr hf=>WS.fill (r:=r) H0.out HL.out h hi hr hf)
    obtain ⟨n,hn⟩:∃ n,m.regs.length=n:=⟨_,rfl⟩
    have HN:=Lib.hid hn
    obtain ⟨x0,x1,x2,x3,x4,x5,_⟩:=HFS.out.bm
    clear hfs hNe hn CA CL BK0 HC5 HC6 hz6 HMade LAx
    go_wp2_with fail
    clear x0 x1 x2 x3 x4 x5
    go_loopw [10,39] (fun v i wr=>∃ k:Nat,k≤m.regs.length∧i=.int .i64 k∧FS m p IB g1 cap1 (.slice y2 ll.length z2) ll la w w4 w5 N wr∧wr.ownsRow N 3 1 v (rngL k).length (nums (rngL k))) (fun _ i _=>m.regs.length - (intOf i).toNat)
    case atStart=>exact ⟨0,by omega,rfl,HFS.out,World.ownsRow_nil _ _ _ _⟩
    case round =>
     obtain ⟨wo,rfl⟩:∃ wo:World,wo=wr:=⟨_,rfl⟩
     obtain ⟨k,hk,rfl,hf,ho⟩:=hrel
     have HFo:=Lib.hid hf
     have HOo:=Lib.hid ho
     have hzN:N≤wo.heap.size:=hf.lN
     clear hf ho HFS
     by_cases hlt:k<m.regs.length
     · have hI:(k:Int)<(m.regs.length:Int):=by omega
       have HSu:=Lib.hid (rngL_succ k)
       have HLn:=Lib.hid (rngL_len k)
       go_wp2_with (at_builtin;refine wpList_append_row _ rfl _ _ 31 rfl 3 N iI (.int .i64 0) Tryz.underlying31 hiI zI0 zI1 zI2 rfl _ (rngL k) rfl (HOo.out.alloc _) _ [(k:Int)] rfl (row1 _ _ _) (by rw [HLn.out];simp;omega) (by simp;omega) ?_;intro v4 w4' hown4 hgrow4 hnxt4)
       have HF4:=Lib.hid (HFo.out.low (push_lowG hzN HOo.out hgrow4))
       go_roundw
       case rel=>exact ⟨k+1,by omega,by go_num,HF4.out,by rw [HSu.out];exact hown4⟩
       case measure=>simp [intOf] <;> omega
     · obtain rfl:k=m.regs.length:=by omega
       clear hlt hk
       go_wp2_with fail
       clear HNe
       go_loopw [10,12] (fun v i wr=>∃ (k:Nat) (L d:List Int),i=.int .i64 k∧k≤L.length∧FS m p IB g1 cap1 (.slice y2 ll.length z2) ll d w w4 w5 N wr∧wr.ownsRow N 3 1 v L.length (nums L)∧WS m la k L d) (fun _ i _=>(m.regs.length+m.regs.length * m.regs.length) - (intOf i).toNat)
       case atStart=>exact ⟨0,rngL m.regs.length,la,rfl,by omega,HFo.out,HOo.out,HFst.out⟩
       case round =>
        obtain ⟨wp,rfl⟩:∃ wo:World,wo=wr:=⟨_,rfl⟩
        obtain ⟨k,L,d,rfl,hk,hf,ho,hws⟩:=hrel
        have HFp:=Lib.hid hf
        have HOp:=Lib.hid ho
        have HWS:=Lib.hid hws
        have hzP:N≤wp.heap.size:=hf.lN
        have HLen:Hid (L.length≤m.regs.length+m.regs.length * m.regs.length):=Lib.hid (by have:=hws.len;omega)
        have HDl:Hid (d.length=m.regs.length):=Lib.hid (by rw [hws.fld.len];exact HL.out)
        have hkb:L.length≤20000:=by have:=HLen.out;have:=hnn.out;omega
        obtain ⟨xw,cw,ev⟩:=ownsRow_slice ho
        subst ev
        clear hf ho hws HFo HOo HFst
        by_cases hlt:k<L.length
        · obtain ⟨gw,cw',ev⟩:=ownsRow_pos HOp.out (by omega)
          simp only [Value.slice.injEq,true_and] at ev
          obtain ⟨rfl,rfl⟩:=ev
          have hcapw2:=ownsRow_capG HOp.out
          obtain ⟨r,hr2,hLk⟩:∃ r:Nat,r<m.regs.length∧L[k]=(r:Int):=HWS.out.inn _ (List.getElem_mem hlt)
          have HLk:Hid (L[k]? = some (r:Int)):=Lib.hid (by rw [List.getElem?_eq_getElem hlt,hLk])
          have hcw:wp.cell? ⟨gw,k,none⟩=some (.int .i64 (r:Int)):=(HOp.out.cellAt k (by omega)).trans (by simp [nums,hlt,hLk])
          have hlt':(k:Int)<(L.length:Int):=by omega
          have hk0:(0:Int)≤(k:Int):=by omega
          have BKr:=Lib.hid (BKx.out wp d HFp.out HDl.out r hr2)
          have HRr:=Lib.hid (show ∀ b,((ruleM m d r == 1 || ruleM m d r == 2) && decide (0≤leastM m r))=b→fillM m d r=b from fun b h=>h)
          have HLe:Hid (leastM m r=if lstM m r 1<0 then lstM m r 2 else lstM m r 1):=Lib.hid rfl
          have LAa:=Lib.hid (fun wx (g:FS m p IB g1 cap1 (.slice y2 ll.length z2) ll d w w4 w5 N wx)=>LA1.out wx d g r)
          have LAb:=Lib.hid (fun wx (g:FS m p IB g1 cap1 (.slice y2 ll.length z2) ll d w w4 w5 N wx)=>LA2.out wx d g r)
          have HA:=Lib.hid (HLs.out r 1)
          have HBk:=Lib.hid (HLs.out r 2)
          have hrl:=rule_le m d r
          generalize ruleM m d r=ρ at BKr HRr hrl
          generalize lstM m r 1=A at LAa HLe HA
          generalize lstM m r 2=B at LAb HLe HBk
          clear hLk LA1 LA2 HLs BKx
          obtain ⟨x0,x1,x2,x3,x4,x5,_⟩:=HFp.out.bm
          have c0:=HFp.out.c0
          have c1:=HFp.out.c1
          go_wp2_with fail
          (with_reducible refine (BKr.out).mono ?_)
          rintro e w7 ⟨rfl,g7⟩
          have HF7:=Lib.hid (HFp.out.low (g7.mono hzP))
          have HO7:=Lib.hid (own_below HOp.out g7)
          have hz7:N≤w7.heap.size:=HF7.out.lN
          clear g7 HFp HOp x0 x1 x2 x3 x4 x5 c0 c1 hcw
          by_cases hρ:ρ=1∨ρ=2
          · have d1:(((ρ:Int) != 1) && ((ρ:Int) != 2))=false:=by rcases hρ with rfl | rfl <;> rfl
            have HR2:=Lib.hid (fun (hq:0≤leastM m r)=>HRr.out true (by rw [decide_eq_true hq];rcases hρ with rfl | rfl <;> rfl))
            have HR3:=Lib.hid (fun (hq:¬ 0≤leastM m r)=>HRr.out false (by rw [decide_eq_false hq];simp))
            clear HRr
            rcases hρ with rfl | rfl
            all_goals
              go_wp2_with fail
              (with_reducible refine (LAa.out _ HF7.out).mono ?_)
              rintro e w8 ⟨rfl,g8⟩
              have HF8:=Lib.hid (HF7.out.low (g8.mono hz7))
              have HO8:=Lib.hid (own_below HO7.out g8)
              have hz8:N≤w8.heap.size:=HF8.out.lN
              clear g8 HF7 HO7 LAa
              by_cases hA:A<0
              · have HLe2:Hid (leastM m r=B):=Lib.hid (by rw [HLe.out,if_pos hA])
                by_cases hB:0≤B
                · obtain ⟨v,hv2,eB,_⟩:=HBk.out hB
                  subst eB
                  clear HBk HA hB
                  go_wp2_with fail
                  (with_reducible refine (LAb.out _ HF8.out).mono ?_)
                  rintro e w9 ⟨rfl,g9⟩
                  have HF9:=Lib.hid (HF8.out.low (g9.mono hz8))
                  have HO9:=Lib.hid (own_below HO8.out g9)
                  have hz9:N≤w9.heap.size:=HF9.out.lN
                  clear g9 HF8 HO8 LAb
                  have hfil:Hid (fillM m d r=true):=Lib.hid (HR2.out (by rw [HLe2.out];omega))
                  have HW2:Hid (WS m la (k+1) (L ++ ownM m (v:Int)) (d.set r (v:Int))):=Lib.hid (by
                    have hh:=HStp.out L d k r HWS.out HLk.out hr2 hfil.out
                    rw [HLe2.out] at hh;exact hh)
                  have c0:=HF9.out.c0
                  have hcap1:=ownsRow_capG HF9.out.o1
                  have hrl2:r<d.length:=by rw [HDl.out];exact hr2
                  have hcr:w9.cell? ⟨g1,r,none⟩=some (.int .i64 d[r]):=(HF9.out.o1.cellAt r (by omega)).trans (by simp [nums,hrl2])
                  have hfr:w9.frozen? ⟨g1,r,none⟩=false:=HF9.out.o1.frozenAt r
                  have hrI:(r:Int)<(d.length:Int):=by omega
                  have hr0:(0:Int)≤(r:Int):=by omega
                  have HP:=Lib.hid (HF9.out.put r (v:Int) hrl2)
                  have HOP:=Lib.hid (ownsRow_setCell_below (a:=⟨g1,r,none⟩) HO9.out HF9.out.l1 (.int .i64 (v:Int)))
                  have RGv:=Lib.hid (RGx.out _ _ HP.out v hv2)
                  have hvI0:(0:Int)≤(v:Int):=by omega
                  have c7:=HP.out.c7
                  have hOw:Hid ((ownM m (v:Int)).length≤100):=Lib.hid (by have:=sel_len (isOwn (v:Int)) m.regs;have e:(ownM m (v:Int)).length≤m.regs.length:=this;omega)
                  clear HR2 HR3 HLe HLe2 HStp RGx hfil
                  go_wp2_with fail
                  (with_reducible refine (RGv.out).mono ?_)
                  rintro e w11 ⟨v11,rfl,o11,g11⟩
                  have HF11:=Lib.hid (HP.out.low (g11.mono HP.out.lN))
                  have HO11:=Lib.hid (own_below HOP.out g11)
                  have R11:=Lib.hid (RowIn.own o11)
                  have hz11:N≤w11.heap.size:=HF11.out.lN
                  clear g11 o11 HP HOP RGv c7 c0 hcr hfr
                  go_wp2_with (at_builtin;refine wpList_append_row _ rfl _ _ 31 rfl 3 N iI (.int .i64 0) Tryz.underlying31 hiI zI0 zI1 zI2 rfl _ L rfl HO11.out _ (ownM m (v:Int)) rfl R11.out (by have:=hOw.out;omega) hz11 ?_;intro v12 w12 hown12 hgrow12 hnxt12)
                  have HF12:=Lib.hid (HF11.out.low ((Below.refl N w11).grown hgrow12 hz11 fun q hq=>(HO11.out.lt q hq).1))
                  go_roundw
                  case rel=>exact ⟨k+1,L ++ ownM m (v:Int),d.set r (v:Int),by go_num,by rw [List.length_append];omega,HF12.out,hown12,HW2.out⟩
                  case measure=>have:=HLen.out;simp [intOf] <;> omega
                · have HNo:=Lib.hid (HR3.out (by rw [HLe2.out];omega))
                  have HWk:=Lib.hid (HWS.out.skip HLk.out HNo.out)
                  have hBd:decide (0≤B)=false:=decide_eq_false hB
                  clear HBk HA HR2 HR3 HStp
                  go_wp2_with fail
                  (with_reducible refine (LAb.out _ HF8.out).mono ?_)
                  rintro e w9 ⟨rfl,g9⟩
                  have HF9:=Lib.hid (HF8.out.low (g9.mono hz8))
                  have HO9:=Lib.hid (own_below HO8.out g9)
                  clear g9 HF8 HO8 LAb
                  go_wp2_with fail
                  go_roundw
                  case rel=>exact ⟨k+1,L,d,by go_num,by omega,HF9.out,HO9.out,HWk.out⟩
                  case measure=>have:=HLen.out;simp [intOf] <;> omega
              · have HLe2:Hid (leastM m r=A):=Lib.hid (by rw [HLe.out,if_neg hA])
                obtain ⟨v,hv2,eA,_⟩:=HA.out (by omega)
                subst eA
                have hA0:¬ ((v:Int)<0):=by omega
                clear HBk HA hA LAb
                have hfil:Hid (fillM m d r=true):=Lib.hid (HR2.out (by rw [HLe2.out];omega))
                have HW2:Hid (WS m la (k+1) (L ++ ownM m (v:Int)) (d.set r (v:Int))):=Lib.hid (by
                  have hh:=HStp.out L d k r HWS.out HLk.out hr2 hfil.out
                  rw [HLe2.out] at hh;exact hh)
                have c0:=HF8.out.c0
                have hcap1:=ownsRow_capG HF8.out.o1
                have hrl2:r<d.length:=by rw [HDl.out];exact hr2
                have hcr:w8.cell? ⟨g1,r,none⟩=some (.int .i64 d[r]):=(HF8.out.o1.cellAt r (by omega)).trans (by simp [nums,hrl2])
                have hfr:w8.frozen? ⟨g1,r,none⟩=false:=HF8.out.o1.frozenAt r
                have hrI:(r:Int)<(d.length:Int):=by omega
                have hr0:(0:Int)≤(r:Int):=by omega
                have HP:=Lib.hid (HF8.out.put r (v:Int) hrl2)
                have HOP:=Lib.hid (ownsRow_setCell_below (a:=⟨g1,r,none⟩) HO8.out HF8.out.l1 (.int .i64 (v:Int)))
                have RGv:=Lib.hid (RGx.out _ _ HP.out v hv2)
                have hvI0:(0:Int)≤(v:Int):=by omega
                have c7:=HP.out.c7
                have hOw:Hid ((ownM m (v:Int)).length≤100):=Lib.hid (by have:=sel_len (isOwn (v:Int)) m.regs;have e:(ownM m (v:Int)).length≤m.regs.length:=this;omega)
                clear HR2 HR3 HLe HLe2 HStp RGx hfil
                go_wp2_with fail
                (with_reducible refine (RGv.out).mono ?_)
                rintro e w11 ⟨v11,rfl,o11,g11⟩
                have HF11:=Lib.hid (HP.out.low (g11.mono HP.out.lN))
                have HO11:=Lib.hid (own_below HOP.out g11)
                have R11:=Lib.hid (RowIn.own o11)
                have hz11:N≤w11.heap.size:=HF11.out.lN
                clear g11 o11 HP HOP RGv c7 c0 hcr hfr
                go_wp2_with (at_builtin;refine wpList_append_row _ rfl _ _ 31 rfl 3 N iI (.int .i64 0) Tryz.underlying31 hiI zI0 zI1 zI2 rfl _ L rfl HO11.out _ (ownM m (v:Int)) rfl R11.out (by have:=hOw.out;omega) hz11 ?_;intro v12 w12 hown12 hgrow12 hnxt12)
                have HF12:=Lib.hid (HF11.out.low ((Below.refl N w11).grown hgrow12 hz11 fun q hq=>(HO11.out.lt q hq).1))
                go_roundw
                case rel=>exact ⟨k+1,L ++ ownM m (v:Int),d.set r (v:Int),by go_num,by rw [List.length_append];omega,HF12.out,hown12,HW2.out⟩
                case measure=>have:=HLen.out;simp [intOf] <;> omega
          · have d1:((ρ:Int) != 1)=true:=by simp only [bne_iff_ne,ne_eq];omega
            have d2:((ρ:Int) != 2)=true:=by simp only [bne_iff_ne,ne_eq];omega
            have HNo:=Lib.hid (HRr.out false (by
              have e1:(ρ == 1)=false:=by simp;omega
              have e2:(ρ == 2)=false:=by simp;omega
              rw [e1,e2];rfl))
            have HWk:=Lib.hid (HWS.out.skip HLk.out HNo.out)
            clear hρ
            go_wp2_with fail
            go_roundw
            case rel=>exact ⟨k+1,L,d,by go_num,by omega,HF7.out,HO7.out,HWk.out⟩
            case measure=>have:=HLen.out;simp [intOf] <;> omega
        · have hkl:k=L.length:=by omega
          have HNr:=Lib.hid (show Nrm m d from WS.last (by rw [hkl] at HWS;exact HWS.out))
          have c0:=HFp.out.c0
          have c1:=HFp.out.c1
          have r0:=HFp.out.r0
          have r1:=HFp.out.r1
          have q0:=HFp.out.q0
          have q1:=HFp.out.q1
          have hI:¬ ((k:Int)<(L.length:Int)):=by omega
          clear LA1 LA2 BKx HLs
          have l3:=HFp.out.l3
          have l4:=HFp.out.l4
          have hB1:=(HFp.out.bel.setCell (p:=⟨w.heap.size+1+1,0,none⟩) (by simp only;omega) (.slice (some ⟨g1,0,none⟩) d.length cap1)).setCell (p:=⟨w.heap.size+1+1,1,none⟩) (by simp only;omega) (.slice y2 ll.length z2)
          have hO1:=(ownsRow_setCell_below (a:=⟨w.heap.size+1+1,1,none⟩) (ownsRow_setCell_below (a:=⟨w.heap.size+1+1,0,none⟩) HFp.out.o1 (by simp only;omega) (.slice (some ⟨g1,0,none⟩) d.length cap1)) (by simp only;omega) (.slice y2 ll.length z2)).mono (base':=w.heap.size) (by omega)
          have hO2:=(ownsRow_setCell_below (a:=⟨w.heap.size+1+1,1,none⟩) (ownsRow_setCell_below (a:=⟨w.heap.size+1+1,0,none⟩) HFp.out.o2 (by simp only;omega) (.slice (some ⟨g1,0,none⟩) d.length cap1)) (by simp only;omega) (.slice y2 ll.length z2)).mono (base':=w.heap.size) (by omega)
          have hDj:∀ g,(Value.slice (some ⟨g1,0,none⟩) d.length cap1).ownBlock=some g→(Value.slice y2 ll.length z2).ownBlock≠some g:=fun g hg hg2=>by
            have e1:=(HFp.out.l2 g hg2).2
            injection hg with hg
            exact e1 hg.symm
          have HEnd:=Lib.hid (And.intro hB1 (And.intro hO1 (And.intro hO2 hDj)))
          clear hB1 hO1 hO2 hDj l3 l4
          go_wp2_with fail
          refine bodyPost_ret (v:=.tuple #[.agg #[.slice (some ⟨g1,0,none⟩) d.length cap1,.slice y2 ll.length z2],.int .i64 0]) (by simp [results,Tryz.results121,go_sem,r0,r1]) rfl ?_
          obtain ⟨hB1,hO1,hO2,hDj⟩:=HEnd.out
          first
            | exact ⟨hB1,d,_,_,rfl,HWS.out.fld,HNr.out,hO1,hO2,hDj⟩
            | exact ⟨hB1,.inr ⟨rfl,d,_,_,rfl,HWS.out.fld,HNr.out,hO1,hO2,hDj⟩⟩
 · have hz1:((C:Int) != 0)=true:=by simp only [bne_iff_ne,ne_eq];omega
   have HCn:=Lib.hid hc
   obtain ⟨t0,t1,⟨t2,t3⟩,_⟩:=HR4.out w4 (Below.refl _ _)
   have HB4:=Lib.hid (HC4.out.mb.bel)
   clear HZ BK HCA HCL NW hc HC4
   go_wp2_with fail
   refine bodyPost_ret (v:=.tuple #[.agg #[.slice none 0 0,.slice none 0 0],.int .i64 (C:Int)]) (by simp [results,Tryz.results121,go_sem,t0,t1]) rfl ⟨(HB4.out.setCell (p:=⟨w.heap.size+1+1,0,none⟩) (by first | omega | (simp only;omega)) _).setCell (p:=⟨w.heap.size+1+1,1,none⟩) (by first | omega | (simp only;omega)) _,.inl ⟨HCn.out,rfl⟩⟩
end Go.Proofs
