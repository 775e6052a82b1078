/- Walks: the law 'LegalFills'. -/
import Derived.Test.YtiimoclbmaggjaaGreatDoorLLwAB
namespace Go.Proofs
open Go.RowKit Go.Lx Go.Md Go.Shelf Go.BigFrame Go.Rgi
set_option linter.unusedVariables false
theorem chk_fill {m:MdlD} {la ll d:List Int} (h:chkE m la ll=0) (hf:Fld m la d):chkE m d ll=0:=by
 obtain ⟨h0,h1,h2⟩:=chk_zero h
 unfold chkE
 rw [h0,if_pos rfl,if_pos]
 unfold fit2
 rw [h2,Bool.and_true]
 unfold fit1
 rw [hf.len,fit1_len' h1,hf.fits h0 (fit1_fit h1)]
 simp
theorem chk_fit {m:MdlD} {la ll:List Int} (F1:Fit m la) (F2:Fit m ll):chkE m la ll=0:=by
 unfold chkE
 rw [F1.h0,if_pos rfl,if_pos]
 unfold fit2 fit1
 rw [F1.hl,F1.hf,F2.hl,F2.hf];simp
theorem fit_chk {m:MdlD} {la ll:List Int} (h:chkE m la ll=0):Fit m la∧Fit m ll:=by
 obtain ⟨h0,h1,h2⟩:=chk_zero h
 exact ⟨⟨h0,fit1_len' h1,fit1_fit h1⟩,⟨h0,fit1_len' h2,fit1_fit h2⟩⟩
theorem again_ok {m:MdlD} {la ll d:List Int} {r:Int} (F:Fit m la) (h:legM m la=true) (hf:Fld m (leftM la (exitsM m la ll r)) d) (hn:Nrm m d) (hfull:∀ r:Nat,r<m.regs.length→someM m r=true):legM m d=true:=by
 unfold exitsM at hf
 split at hf
 · rename_i hc
   rw [Bool.and_eq_true] at hc
   have hr:=hc.2
   unfold hasR at hr
   simp only [Bool.and_eq_true,decide_eq_true_eq] at hr
   obtain ⟨k,rfl⟩:=Int.eq_ofNat_of_zero_le hr.1
   exact left_again F h (by omega) hf hn hfull
 · rw [left_nil] at hf
   rw [fill_legal F.hl h hf hn];exact h
theorem exits_leave {m:MdlD} {la ll:List Int} {r:Int} (F:Fit m la) {i:Nat} (hi:i<(exitsM m la ll r).length):leaveOk m (leftM la ((exitsM m la ll r).take i)) (exitsM m la ll r)[i]=true∧isA m la (exitsM m la ll r)[i]=true:=by
 have e:exitsM m la ll r=[]∨∃ k:Nat,k<m.regs.length∧exitsM m la ll r=exM m la k:=by
   unfold exitsM
   split
   · rename_i hc
     rw [Bool.and_eq_true] at hc
     have hr:=hc.2
     unfold hasR at hr
     simp only [Bool.and_eq_true,decide_eq_true_eq] at hr
     obtain ⟨k,rfl⟩:=Int.eq_ofNat_of_zero_le hr.1
     exact .inr ⟨k,by omega,rfl⟩
   · exact .inl rfl
 rcases e with e | ⟨k,hk,e⟩
 · rw [e] at hi;simp at hi
 · simp only [e] at hi ⊢
   refine ⟨leave_at F hk hi,?_⟩
   obtain ⟨j,ej,_,ha⟩:=exM_act F hk (List.getElem_mem hi)
   rw [ej];exact ha
theorem left_take {m:MdlD} {la X:List Int} (F:Fit m la) {i:Nat} (hi:i<X.length) (ha:isA m la X[i]=true):(leftM la (X.take i)).set (rgA m X[i]).toNat (-1)=leftM la (X.take (i+1)):=by
 rw [left_step F ha,List.take_succ_eq_append_getElem hi]
theorem fau_two (xs:List (Nat × Nat)) (k:Nat) (h:k<xs.length):(fauV xs)[k * 2]? = some (.int .u8 (xs[k].1:Int))∧(fauV xs)[k * 2+1]? = some (.int .i64 (xs[k].2:Int)):=by
 induction xs generalizing k with
 | nil=>simp at h
 | cons x t ih =>
  cases k with
  | zero=>simp [fauV]
  | succ k =>
   have:=ih k (by simpa using h)
   rw [show (k+1) * 2=k * 2+2 by omega,show fauV (x :: t)=.int .u8 (x.1:Int) :: .int .i64 (x.2:Int) :: fauV t from rfl]
   simpa using this
theorem own_posF {N T S n:Nat} {w:World} {v:Value} {xs:List Value} (h:w.ownsRow N T S v n xs) (hn:0<n):∃ g c,v=.slice (some ⟨g,0,none⟩) n c∧n≤c:=by
 rcases h.2 with ⟨_,h0⟩ | ⟨g',c',_,e,_,_,hc,_⟩
 · omega
 · exact ⟨g',c',e,hc⟩
theorem own_sliceF {N T S n:Nat} {w:World} {v:Value} {xs:List Value} (h:w.ownsRow N T S v n xs):∃ a c,v=.slice a n c:=by
 rcases h.2 with ⟨e,h0⟩ | ⟨g',c',_,e,_⟩
 · exact ⟨none,0,by rw [e,h0]⟩
 · exact ⟨_,_,e⟩
structure Lf (m:MdlD) (p:Ph) (la ll d:List Int) (a1 a2:Option Addr) (c1 c2 H:Nat) (y1 y2:Option Addr) (z1 z2:Nat) (w wx:World):Prop where
 mc:Mc m p la ll a1 a2 c1 c2 w wx
 cb:Cb d ll y1 y2 z1 z2 H wx
theorem Lf.below {m:MdlD} {p:Ph} {la ll d:List Int} {a1 a2:Option Addr} {c1 c2 H:Nat} {y1 y2:Option Addr} {z1 z2:Nat} {w wx wy:World} (h:Lf m p la ll d a1 a2 c1 c2 H y1 y2 z1 z2 w wx) (g:Below wx.heap.size wx wy):Lf m p la ll d a1 a2 c1 c2 H y1 y2 z1 z2 w wy:=⟨h.mc.below g,h.cb.below g⟩
theorem SetAt.set {B H k:Nat} {m:MdlD} {SB:Nat} {w:World} {u:Value} (h:SetAt B m SB w) (hH:H<B) (hn:∀ j x,w.cell? ⟨H,j,none⟩≠some (.int .u8 x)) (hp:∀ x,w.cell? ⟨H,0,none⟩≠some (.pointer x)):SetAt B m SB (w.setCell ⟨H,k,none⟩ u):=by
 obtain ⟨IB,kv,h1,h2,h3,h4,h5,h6⟩:=h
 have hne:SB≠H:=fun e=>by subst e;exact hp _ h2
 have hb:∀ b,b≠H→(w.setCell ⟨H,k,none⟩ u).heap[b]? = w.heap[b]? := fun b hb=>Below.heap_setCell _ _ _ _ hb
 have hc:∀ b j,b≠H→(w.setCell ⟨H,k,none⟩ u).cell? ⟨b,j,none⟩=w.cell? ⟨b,j,none⟩:=fun b j h=>World.cell?_of_block (w:=w) (hb b h)
 refine ⟨IB,kv,h1.keep (by rw [World.size_setCell];exact Nat.le_refl _) (fun b hb1 _=>hb b (by omega)),(hc _ _ hne).trans h2,(hc _ _ hne).trans h3,(hc _ _ hne).trans h4,?_,by rw [World.size_setCell];exact h6⟩
 rcases h5 with h5 | ⟨b,off,c,e,g1,g2,g3⟩
 · exact .inl h5
 · refine .inr ⟨b,off,c,e,g1,by rw [World.size_setCell];exact g2,fun j hj=>?_⟩
   have:b≠H:=fun e=>by subst e;exact hn _ _ (g3 j hj)
   exact (hc _ _ this).trans (g3 j hj)
structure Lv (m:MdlD) (p:Ph) (la X:List Int) (xa:Option Addr) (xc B SB N k:Nat) (w wr:World):Prop where
 mb:Mb m p w.heap.size w wr
 cb:∃ l' y1 y2 z1 z2,Cb (leftM la (X.take k)) l' y1 y2 z1 z2 (w.heap.size+1) wr∧Fit m l'
 fz:wr.frozen? ⟨w.heap.size+1,0,none⟩=false∧wr.frozen? ⟨w.heap.size+1,1,none⟩=false
 nk:∀ j x,wr.cell? ⟨w.heap.size+1,j,none⟩≠some (.int .u8 x)
 st:SetAt B m SB wr
 ox:wr.ownsRow N 3 1 (.slice xa X.length xc) X.length (nums X)
theorem Lv.below {m:MdlD} {p:Ph} {la X:List Int} {xa:Option Addr} {xc B SB N k:Nat} {w wr wy:World} (h:Lv m p la X xa xc B SB N k w wr) (g:Below wr.heap.size wr wy):Lv m p la X xa xc B SB N k w wy:=by
 obtain ⟨l',y1,y2,z1,z2,hc,hf⟩:=h.cb
 have hlt:=hc.lt
 exact ⟨h.mb.below g,⟨l',y1,y2,z1,z2,hc.below g,hf⟩,⟨(g.frozen (p:=⟨w.heap.size+1,0,none⟩) hlt).trans h.fz.1,(g.frozen (p:=⟨w.heap.size+1,1,none⟩) hlt).trans h.fz.2⟩,fun j x e=>h.nk j x ((g.cell (p:=⟨w.heap.size+1,j,none⟩) hlt).symm.trans e),h.st.grown g,own_below h.ox g⟩
theorem nk_box {w:World} {H:Nat} {v1 v2:Value} {T:TypeId} (h:w.heap[H]? = some (.cells #[v1,v2] T (0,0))) (h1:∀ x,v1≠.int .u8 x) (h2:∀ x,v2≠.int .u8 x):∀ j x,w.cell? ⟨H,j,none⟩≠some (.int .u8 x):=fun j x e=>by
 rw [cell_blk h j] at e
 match j with
 | 0=>simp at e;exact h1 _ e
 | 1=>simp at e;exact h2 _ e
 | j+2=>simp at e
theorem Lv.next {m:MdlD} {p:Ph} {la X:List Int} {xa:Option Addr} {xc B SB N k:Nat} {w wr:World} {l':List Int} {y1 y2:Option Addr} {z1 z2 n1 n2 M:Nat} (h:Lv m p la X xa xc B SB N k w wr) (hB:w.heap.size+1<B) (hN:w.heap.size+1<N) (hM:w.heap.size+1<M) (hf:Fit m l') (e1:n1=(leftM la (X.take (k+1))).length) (e2:n2=l'.length)
   (o1:wr.ownsRow M 3 1 (.slice y1 n1 z1) n1 (nums (leftM la (X.take (k+1))))) (o2:wr.ownsRow M 3 1 (.slice y2 n2 z2) n2 (nums l')) :
   Lv m p la X xa xc B SB N (k+1) w ((wr.setCell ⟨w.heap.size+1,0,none⟩ (.slice y1 n1 z1)).setCell ⟨w.heap.size+1,1,none⟩ (.slice y2 n2 z2)):=by
 subst e1 e2
 obtain ⟨l0,a1,a2,b1,b2,hc,_⟩:=h.cb
 have hd1:(wr.setCell ⟨w.heap.size+1,0,none⟩ (.slice y1 (leftM la (X.take (k+1))).length z1)).cell? ⟨w.heap.size+1,1,none⟩=some (.slice a2 l0.length b2):=(World.cell?_setCell_other _ _ _ _ (by simp)).trans hc.d1
 have hk0:((wr.setCell ⟨w.heap.size+1,0,none⟩ (.slice y1 (leftM la (X.take (k+1))).length z1)).setCell ⟨w.heap.size+1,1,none⟩ (.slice y2 l'.length z2)).cell? ⟨w.heap.size+1,0,none⟩=some (.slice y1 (leftM la (X.take (k+1))).length z1):=(World.cell?_setCell_other _ _ _ _ (by simp)).trans (World.cell?_setCell_same _ _ _ hc.d0)
 have hk1:((wr.setCell ⟨w.heap.size+1,0,none⟩ (.slice y1 (leftM la (X.take (k+1))).length z1)).setCell ⟨w.heap.size+1,1,none⟩ (.slice y2 l'.length z2)).cell? ⟨w.heap.size+1,1,none⟩=some (.slice y2 l'.length z2):=World.cell?_setCell_same _ _ _ hd1
 have nk1:∀ j x,(wr.setCell ⟨w.heap.size+1,0,none⟩ (.slice y1 (leftM la (X.take (k+1))).length z1)).cell? ⟨w.heap.size+1,j,none⟩≠some (.int .u8 x):=fun j x e=>by
   by_cases hj:j=0
   · subst hj;rw [World.cell?_setCell_same _ _ _ hc.d0] at e;cases e
   · rw [World.cell?_setCell_other _ _ _ _ (by simp <;> omega)] at e;exact h.nk j x e
 refine ⟨(h.mb.set (by omega) (Nat.le_refl _) _).set (by omega) (Nat.le_refl _) _,⟨l',y1,y2,z1,z2,⟨hk0,hk1,?_,?_,by rw [World.size_setCell,World.size_setCell];exact hc.lt⟩,hf⟩,⟨by rw [World.frozen?_setCell,World.frozen?_setCell];exact h.fz.1,by rw [World.frozen?_setCell,World.frozen?_setCell];exact h.fz.2⟩,fun j x e=>?_,?_,?_⟩
 · exact RowIn.own (ownsRow_setCell_below (a:=⟨w.heap.size+1,1,none⟩) (ownsRow_setCell_below (a:=⟨w.heap.size+1,0,none⟩) o1 hM _) hM _)
 · exact RowIn.own (ownsRow_setCell_below (a:=⟨w.heap.size+1,1,none⟩) (ownsRow_setCell_below (a:=⟨w.heap.size+1,0,none⟩) o2 hM _) hM _)
 · by_cases hj:j=1
   · subst hj;rw [hk1] at e;cases e
   · rw [World.cell?_setCell_other _ _ _ _ (by simp <;> omega)] at e;exact nk1 j x e
 · exact (h.st.set hB h.nk (fun x e=>by rw [hc.d0] at e;cases e)).set hB nk1 (fun x e=>by rw [World.cell?_setCell_same _ _ _ hc.d0] at e;cases e)
 · exact ownsRow_setCell_below (a:=⟨w.heap.size+1,1,none⟩) (ownsRow_setCell_below (a:=⟨w.heap.size+1,0,none⟩) h.ox hN _) hN _
structure N18 (wo W:World) (b:Nat) (a1 a2:List Int) (n1 n2:Nat) (u1 u2:Option Addr) (t1 t2:Nat):Prop where
 bel:Below wo.heap.size wo W
 c0:W.cell? ⟨b,0,none⟩=some (.slice u1 n1 t1)
 c1:W.cell? ⟨b,1,none⟩=some (.slice u2 n2 t2)
 o1:W.ownsRow wo.heap.size 3 1 (.slice u1 n1 t1) n1 (nums a1)
 o2:W.ownsRow wo.heap.size 3 1 (.slice u2 n2 t2) n2 (nums a2)
theorem n18_a {wo w9:World} {a1 a2:List Int} {n1 n2 t1 t2 M:Nat} {u1 u2:Option Addr} {zA:w9.heap[wo.heap.size]? = some (.cells #[.slice none 0 0,.slice none 0 0] 74 (0,0))} (hB:Below wo.heap.size wo w9) (hM:wo.heap.size+1≤M) (o1:w9.ownsRow M 3 1 (.slice u1 n1 t1) n1 (nums a1)) (o2:w9.ownsRow M 3 1 (.slice u2 n2 t2) n2 (nums a2)) :
   N18 wo ((w9.setCell ⟨wo.heap.size,0,none⟩ (.slice u1 n1 t1)).setCell ⟨wo.heap.size,1,none⟩ (.slice u2 n2 t2)) wo.heap.size a1 a2 n1 n2 u1 u2 t1 t2:=by
 have z0:=cell_blk zA 0
 have z1:=cell_blk zA 1
 simp only [List.getElem?_toArray,List.getElem?_cons_zero,List.getElem?_cons_succ] at z0 z1
 exact ⟨(hB.setCell (p:=⟨wo.heap.size,0,none⟩) (Nat.le_refl _) _).setCell (p:=⟨wo.heap.size,1,none⟩) (Nat.le_refl _) _,(World.cell?_setCell_other _ _ _ _ (by simp)).trans (World.cell?_setCell_same _ _ _ z0),World.cell?_setCell_same _ _ _ ((World.cell?_setCell_other _ _ _ _ (by simp)).trans z1),(ownsRow_setCell_below (a:=⟨wo.heap.size,1,none⟩) (ownsRow_setCell_below (a:=⟨wo.heap.size,0,none⟩) o1 (by simp only;omega) _) (by simp only;omega) _).mono (by omega),(ownsRow_setCell_below (a:=⟨wo.heap.size,1,none⟩) (ownsRow_setCell_below (a:=⟨wo.heap.size,0,none⟩) o2 (by simp only;omega) _) (by simp only;omega) _).mono (by omega)⟩
theorem n18_b {wo w9:World} {a1 a2:List Int} {n1 n2 t1 t2 M:Nat} {u1 u2:Option Addr} (hB:Below wo.heap.size wo w9) (hM:wo.heap.size≤M) (o1:w9.ownsRow M 3 1 (.slice u1 n1 t1) n1 (nums a1)) (o2:w9.ownsRow M 3 1 (.slice u2 n2 t2) n2 (nums a2)) :
   N18 wo (w9.alloc (.cells #[.slice u1 n1 t1,.slice u2 n2 t2] 74)) w9.heap.size a1 a2 n1 n2 u1 u2 t1 t2 :=
 ⟨hB.alloc hB.size _,by simp,by simp,(own_below o1 (below_al1 w9 _)).mono hM,(own_below o2 (below_al1 w9 _)).mono hM⟩
theorem leave_is {B:Nat} {m:MdlD} {SB:Nat} {w:World} (h:SetAt B m SB w) (hm1:m.regs.length≤1000) (hm2:m.vers.length≤1000) {la l2:List Int} {y1 y2:Option Addr} {z1 z2 H n n2:Nat} (hc:Cb la l2 y1 y2 z1 z2 H w) (F1:Fit m la) (F2:Fit m l2) (v:Int) (hs:stands m v=true) (hk:leaveOk m la v=true) (hn:la.length=n) (hn2:l2.length=n2) :
   Calls Tryz.prog 131 #[.pointer (some ⟨SB,0,none⟩),.agg #[.slice y1 n z1,.slice y2 n2 z2],.int .i64 v] w fun e w'=>∃ u1 u2 t1 t2,e=.returned (.tuple #[.agg #[.slice u1 n t1,.slice u2 n2 t2],.int .i64 0])∧Below w.heap.size w w' ∧
     w'.ownsRow w.heap.size 3 1 (.slice u1 n t1) n (nums (la.set (rgA m v).toNat (-1)))∧w'.ownsRow w.heap.size 3 1 (.slice u2 n2 t2) n2 (nums (l2.set (rgA m v).toNat v)):=by
 subst hn hn2
 refine (leave_any h F1.h0 hm1 hm2 la l2 y1 y2 z1 z2 hc.r1 hc.r2 (by rw [F1.hl];omega) (by rw [F2.hl];omega) v).mono ?_
 have hE:mayE m la l2 v=0:=by
   unfold mayE
   rw [if_pos]
   rw [hs,Bool.and_true]
   unfold fit2 fit1
   rw [F1.hl,F1.hf,F2.hl,F2.hf];simp
 rintro e w' ⟨hb,(⟨h1,_⟩ | ⟨_,h1,_⟩ | ⟨_,_,v1,v2,rfl,o1,o2,_⟩)⟩
 · exact absurd hE h1
 · rw [hk] at h1;cases h1
 · obtain ⟨u1,t1,rfl⟩:=ownsRow_slice o1
   obtain ⟨u2,t2,rfl⟩:=ownsRow_slice o2
   exact ⟨u1,u2,t1,t2,rfl,hb,o1,o2⟩
set_option maxRecDepth 100000 in
set_option maxHeartbeats 16000000 in
theorem legalFills_any {Q:Nat→BP} (m:MdlD) (p:Ph) (la ll:List Int) (a1 a2:Option Addr) (c1 c2:Nat) (r:Int) (w:World) (h:Mod Q w m p) (hm:MdlOk m) (hT:Tab w) (h1:RowIn w (.slice a1 la.length c1) la) (h2:RowIn w (.slice a2 ll.length c2) ll) (b1:la.length≤140737488355328) (b2:ll.length≤140737488355328) :
   Calls Tryz.prog 52 #[mdV m p,.agg #[.slice a1 la.length c1,.slice a2 ll.length c2],.int .i64 r] w fun e w'=>e=.returned (.bool true)∧Below w.heap.size w w':=by
 have HB:=Lib.hid (Mc.made h h1 h2)
 have HK1:Hid (∀ wx,Below ((w.alloc (.cells #[.string m.nm,.slice p.a1 m.vars.length p.c1,.slice p.a2 m.evs.length p.c2,.slice p.a3 m.regs.length p.c3,.slice p.a4 m.vers.length p.c4,.slice p.a5 m.trns.length p.c5] 28)).alloc (.cells #[.slice a1 la.length c1,.slice a2 ll.length c2] 74)).heap.size ((w.alloc (.cells #[.string m.nm,.slice p.a1 m.vars.length p.c1,.slice p.a2 m.evs.length p.c2,.slice p.a3 m.regs.length p.c3,.slice p.a4 m.vers.length p.c4,.slice p.a5 m.trns.length p.c5] 28)).alloc (.cells #[.slice a1 la.length c1,.slice a2 ll.length c2] 74)) wx→wx.heap[w.heap.size+1]? = some (.cells #[.slice a1 la.length c1,.slice a2 ll.length c2] 74 (0,0))):=Lib.hid fun wx g=>by
   have e:=World.alloc_heap_new (w.alloc (.cells #[.string m.nm,.slice p.a1 m.vars.length p.c1,.slice p.a2 m.evs.length p.c2,.slice p.a3 m.regs.length p.c3,.slice p.a4 m.vers.length p.c4,.slice p.a5 m.trns.length p.c5] 28)) (.cells #[.slice a1 la.length c1,.slice a2 ll.length c2] 74)
   rw [World.size_alloc] at e
   exact (g.block (w.heap.size+1) (by simp)).trans e
 have F1:=Lib.hid (fun wx (g:Mc m p la ll a1 a2 c1 c2 w wx)=>small26_any m p a1 a2 la.length c1 ll.length c2 wx g.mb.mod hm b1 b2)
 have WK:=Lib.hid (fun wx (g:Below w.heap.size w wx)=>works26 wx (hT.next g))
 have FL:=Lib.hid (fun (hs:Sm26 m la.length ll.length) wx (g:Mc m p la ll a1 a2 c1 c2 w wx)=>fill_any m p la ll a1 a2 c1 c2 wx g.mb.mod hm (hT.next g.mb.bel) g.r1 g.r2 b1 b2 (by have:=hs.vr;omega) (by have:=hs.rg;omega) (by have:=hs.tr;omega))
 have LG:=Lib.hid (fun (hs:Sm26 m la.length ll.length) wx (g:Mc m p la ll a1 a2 c1 c2 w wx)=>legal_any m p la ll a1 a2 c1 c2 wx g.mb.mod hm (hT.next g.mb.bel) g.r1 g.r2 b1 b2 (by have:=hs.vr;omega) (by have:=hs.rg;omega) (by have:=hs.tr;omega))
 have CK:=Lib.hid (fun (hs:Sm26 m la.length ll.length) wx (d:List Int) (y1 y2:Option Addr) (z1 z2 H:Nat) (g:Lf m p la ll d a1 a2 c1 c2 H y1 y2 z1 z2 w wx) (hd:d.length=la.length)=>check_any m p d ll y1 y2 z1 z2 wx g.mc.mb.mod hm (hT.next g.mc.mb.bel) g.cb.r1 g.cb.r2 (by omega) b2 (by have:=hs.vr;omega) (by have:=hs.rg;omega) (by have:=hs.tr;omega))
 have SM:=Lib.hid (fun (hs:Sm26 m la.length ll.length) wx (d:List Int) (y1 y2:Option Addr) (z1 z2 H:Nat) (g:Lf m p la ll d a1 a2 c1 c2 H y1 y2 z1 z2 w wx) (hd:d.length=la.length)=>sameCfg_any la ll d ll a1 a2 y1 y2 c1 c2 z1 z2 wx g.mc.r1 g.mc.r2 g.cb.r1 g.cb.r2 (by have:=hs.a;omega) (by have:=hs.b;omega) (by have:=hs.a;omega) (by have:=hs.b;omega))
 have SO:=Lib.hid (fun (hs:Sm26 m la.length ll.length) wx (g:Mc m p la ll a1 a2 c1 c2 w wx) (q:Int)=>some26_any m p q wx g.mb.mod (by have:=hs.vr;omega))
 have NW:=Lib.hid (fun (hs:Sm26 m la.length ll.length) wx (g:Mc m p la ll a1 a2 c1 c2 w wx)=>setsNew_any m p wx g.mb.mod hm (hT.next g.mb.bel) (by have:=hs.vr;omega) (by have:=hs.rg;omega) (by have:=hs.tr;omega))
 have HM:=Lib.hid (fun wx (g:Below w.heap.size w wx)=>(h.below g).any)
 have HTn:=Lib.hid (fun wx (g:Below w.heap.size w wx)=>hT.next g)
 have HOk:=Lib.hid hm
 have HvI:=Lib.hid hm.vers
 unfold mdV at F1 FL LG CK SO NW ⊢
 clear h hm hT h1 h2 b1 b2
 go_enter Tryz.func52,Tryz.ntmps52
 obtain ⟨x0,x1,x2,x3,x4,x5,_⟩:=HB.out.mb.box
 have d0:=HB.out.d0
 have d1:=HB.out.d1
 go_wp2_with fail
 (with_reducible refine (F1.out _ HB.out).mono ?_)
 rintro e w3 ⟨⟨f1,rfl,s1⟩,g3⟩
 have HB3:=Lib.hid (HB.out.below g3)
 have HK3:Hid (∀ wx,Below w3.heap.size w3 wx→wx.heap[w.heap.size+1]? = some (.cells #[.slice a1 la.length c1,.slice a2 ll.length c2] 74 (0,0))):=Lib.hid fun wx g=>HK1.out wx (below_ch g3 g)
 clear HK1 HB x0 x1 x2 x3 x4 x5 F1 d0 d1
 obtain ⟨x0,x1,x2,x3,x4,x5,_⟩:=HB3.out.mb.box
 have d0:=HB3.out.d0
 have d1:=HB3.out.d1
 cases f1
 · go_wp2_with fail
   (with_reducible refine (WK.out _ HB3.out.mb.bel).mono ?_)
   rintro e w4 ⟨rfl,g4⟩
   go_wp2_with fail
   go_ret
   exact ⟨rfl,(HB3.out.below g4).mb.bel⟩
 have hS:=Lib.hid (s1 rfl)
 have hrg20:=hS.out.rg
 have hvr40:=hS.out.vr
 have FLs:=Lib.hid (FL.out hS.out)
 have LGs:=Lib.hid (LG.out hS.out)
 have CKs:=Lib.hid (CK.out hS.out)
 have SMs:=Lib.hid (SM.out hS.out)
 have SOs:=Lib.hid (SO.out hS.out)
 have NWs:=Lib.hid (NW.out hS.out)
 clear s1 g3 FL LG CK SM SO NW
 go_wp2_with fail
 (with_reducible refine (FLs.out _ HB3.out).mono ?_)
 rintro e w4 ⟨g4,(⟨hE,rfl⟩ | ⟨hE,d,v1,v2,rfl,hfd,hnr,o1,o2,hdj⟩)⟩
 · have HB4:=Lib.hid (HB3.out.below g4)
   have HB5:Hid (Below w.heap.size w (w4.alloc (.cells #[.slice none 0 0,.slice none 0 0] 74))):=Lib.hid ((HB4.out.below (below_al1 _ _)).mb.bel)
   have hz1:((chkE m la ll:Int) != 0)=true:=by simp only [bne_iff_ne,ne_eq];omega
   clear d0 d1 x0 x1 x2 x3 x4 x5 g4 hE
   generalize chkE m la ll=E at *
   go_wp2_with fail
   (with_reducible refine (WK.out _ HB5.out).mono ?_)
   rintro e w5 ⟨rfl,g5⟩
   go_wp2_with fail
   go_ret
   exact ⟨rfl,HB5.out.trans (g5.mono HB5.out.size)⟩
 obtain ⟨y1,z1,rfl⟩:=ownsRow_slice o1
 obtain ⟨y2,z2,rfl⟩:=ownsRow_slice o2
 have HL:Hid (Lf m p la ll d a1 a2 c1 c2 w4.heap.size y1 y2 z1 z2 w (w4.alloc (.cells #[.slice y1 d.length z1,.slice y2 ll.length z2] 74))):=Lib.hid ⟨(HB3.out.below g4).below (below_al1 _ _),Cb.made (RowIn.own o1) (RowIn.own o2)⟩
 have HK5:=Lib.hid (fun wx (g:Below (w4.alloc (.cells #[.slice y1 d.length z1,.slice y2 ll.length z2] 74)).heap.size (w4.alloc (.cells #[.slice y1 d.length z1,.slice y2 ll.length z2] 74)) wx)=>HK3.out wx (below_ch g4 (below_ch (below_al1 _ _) g)))
 have HFd:=Lib.hid hfd
 have HNr:=Lib.hid hnr
 have HE:=Lib.hid hE
 obtain ⟨hF1,hF2⟩:=fit_chk hE
 have HF1:=Lib.hid hF1
 have HF2:=Lib.hid hF2
 have HCk:=Lib.hid (chk_fill hE hfd)
 have HdL:=Lib.hid hfd.len
 clear d0 d1 x0 x1 x2 x3 x4 x5 o1 o2 hdj g4 hfd hnr hE hF1 hF2 HB3 HK3
 obtain ⟨H7,hH7⟩:∃ H7,w4.heap.size=H7:=⟨_,rfl⟩
 rw [hH7] at HL
 go_upto_region 4 with fail
 clear hH7
 generalize w4.alloc (.cells #[.slice y1 d.length z1,.slice y2 ll.length z2] 74)=W5 at *
 obtain ⟨x0,x1,x2,x3,x4,x5,_⟩:=HL.out.mc.mb.box
 have e0:=HL.out.cb.d0
 have e1:=HL.out.cb.d1
 have CK5:=CKs.out W5 d y1 y2 z1 z2 H7 HL.out HdL.out
 have HCK5:=Lib.hid CK5
 clear CK5 CKs
 go_wp2_with fail
 (with_reducible refine (HCK5.out).mono ?_)
 rintro e w6 ⟨vl,rfl,g6,hcase⟩
 obtain ⟨_,o6⟩:=hcase.resolve_left (fun h=>h.1 HCk.out)
 rw [HCk.out]
 have HL6:=Lib.hid (HL.out.below g6)
 have HK6:=Lib.hid (fun wx (g:Below w6.heap.size w6 wx)=>HK5.out wx (below_ch g6 g))
 clear HK5
 have HO6:=Lib.hid o6
 clear x0 x1 x2 x3 x4 x5 e0 e1 hcase g6 o6 HCK5
 go_upto_region 7 with fail
 have hB0:Below w6.heap.size w6 w6:=Below.refl _ _
 go_cut [60] (fun v60 wx=>v60=.bool false∧Below w6.heap.size w6 wx)
 case first =>
  have LG6:=LGs.out w6 HL6.out.mc
  rw [show legB m la ll=legM m la by unfold legB;rw [HE.out];rfl] at LG6
  obtain ⟨x0,x1,x2,x3,x4,x5,_⟩:=HL6.out.mc.mb.box
  have d0:=HL6.out.mc.d0
  have d1:=HL6.out.mc.d1
  cases hgm:legM m la with
  | false =>
   rw [hgm] at LG6
   have HLG:=Lib.hid LG6
   clear LG6 hgm
   go_wp2_with fail
   (with_reducible refine (HLG.out).mono ?_)
   rintro e w7 ⟨rfl,g7⟩
   go_wp2_with fail
   go_meet
   exact ⟨rfl,g7⟩
  | true =>
   rw [hgm] at LG6
   have HLG:=Lib.hid LG6
   have hd:d=la:=fill_legal HF1.out.hl hgm HFd.out HNr.out
   have HSa:=Lib.hid (show sameC la ll d ll=true by unfold sameC;rw [hd];simp)
   clear LG6 hgm hd
   go_wp2_with fail
   (with_reducible refine (HLG.out).mono ?_)
   rintro e w7 ⟨rfl,g7⟩
   have HL7:=Lib.hid (HL6.out.below g7)
   have SM7:=SMs.out w7 d y1 y2 z1 z2 H7 HL7.out HdL.out
   rw [HSa.out] at SM7
   have HSM:=Lib.hid SM7
   have HG7:=Lib.hid g7
   clear SM7 g7 x0 x1 x2 x3 x4 x5 d0 d1
   have d0:=HL7.out.mc.d0
   have d1:=HL7.out.mc.d1
   have e0:=HL7.out.cb.d0
   have e1:=HL7.out.cb.d1
   go_wp2_with fail
   (with_reducible refine (HSM.out).mono ?_)
   rintro e w8 ⟨rfl,g8⟩
   go_wp2_with fail
   go_meet
   exact ⟨rfl,below_ch HG7.out g8⟩
 case rest =>
  obtain ⟨rfl,hb⟩:=hcut
  have HLc:=Lib.hid (HL6.out.below hb)
  have HKc:=Lib.hid (fun wx (g:Below wc.heap.size wc wx)=>HK6.out wx (below_ch hb g))
  clear HK6
  have HOc:=Lib.hid (own_below HO6.out hb)
  clear HL6 HO6 hb SMs HdL
  go_wp2_with fail
  go_loopw [11,12] (fun v11 i wr=>∃ k:Nat,k≤m.regs.length∧i=.int .i64 k∧v11=.bool ((List.range k).all fun q=>someM m q)∧Below wc.heap.size wc wr) (fun _ i _=>m.regs.length - (intOf i).toNat)
  case atStart=>exact ⟨0,by omega,rfl,rfl,Below.refl _ _⟩
  case round =>
   obtain ⟨wo,rfl⟩:∃ wo:World,wo=wr:=⟨_,rfl⟩
   obtain ⟨k,hk,rfl,rfl,hb⟩:=hrel
   have HLo:=Lib.hid (HLc.out.below hb)
   have HBo:=Lib.hid hb
   clear hb
   obtain ⟨x0,x1,x2,x3,x4,x5,_⟩:=HLo.out.mc.mb.box
   by_cases hlt:k<m.regs.length
   · have hI:(k:Int)<(m.regs.length:Int):=by omega
     have HSo:=Lib.hid (SOs.out wo HLo.out.mc (k:Int))
     have HAl:Hid (((List.range (k+1)).all fun q=>someM m (q:Int))=(((List.range k).all fun q=>someM m (q:Int)) && someM m (k:Int))):=Lib.hid (by rw [List.range_succ,List.all_append];simp)
     have hrl:=HF1.out
     cases hfa:((List.range k).all fun q=>someM m (q:Int)) with
     | false =>
      rw [hfa] at HAl
      clear hfa hrl
      go_wp2_with fail
      go_roundw
      case rel=>exact ⟨k+1,by omega,by go_num,by rw [HAl.out];rfl,HBo.out⟩
      case measure=>simp [intOf] <;> omega
     | true =>
      rw [hfa] at HAl
      clear hfa hrl
      go_wp2_with fail
      (with_reducible refine (HSo.out).mono ?_)
      rintro e w9 ⟨rfl,g9⟩
      go_wp2_with fail
      go_roundw
      case rel=>exact ⟨k+1,by omega,by go_num,by rw [HAl.out];rfl,below_ch HBo.out g9⟩
      case measure=>simp [intOf] <;> omega
   · obtain rfl:k=m.regs.length:=by omega
     have HOo:=Lib.hid (own_below HOc.out HBo.out)
     clear hlt hk
     obtain ⟨fa,hfa⟩:∃ fa,((List.range m.regs.length).all fun q=>someM m (q:Int))=fa:=⟨_,rfl⟩
     rw [hfa]
     have HFa:=Lib.hid hfa
     clear hfa
     obtain ⟨va,vc,rfl⟩:=own_sliceF HOo.out
     have HFl:Hid (∀ k (h:k<(fltF m d m.regs.length).length),(fltF m d m.regs.length)[k].1<3→someM m (fltF m d m.regs.length)[k].2=false):=Lib.hid fun k h h3=>flt_fill HF1.out.h0 HNr.out (Nat.le_refl _) (List.getElem_mem h) h3
     have hxl:(fltF m d m.regs.length).length≤20:=by have:=fltF_len m d m.regs.length;omega
     generalize fltF m d m.regs.length=xs at *
     go_wp2_with fail
     clear x0 x1 x2 x3 x4 x5
     go_loopw [13] (fun i wr=>∃ k:Nat,k≤xs.length∧i=.int .i64 k∧Below wo.heap.size wo wr) (fun i _=>xs.length - (intOf i).toNat)
     case atStart=>exact ⟨0,by omega,rfl,Below.refl _ _⟩
     case round =>
      obtain ⟨wp,rfl⟩:∃ wo:World,wo=wr:=⟨_,rfl⟩
      obtain ⟨k,hk,rfl,hb⟩:=hrel
      have HLp:=Lib.hid (HLo.out.below hb)
      have HBp:=Lib.hid hb
      have HOp:=Lib.hid (own_below HOo.out hb)
      clear hb
      obtain ⟨x0,x1,x2,x3,x4,x5,_⟩:=HLp.out.mc.mb.box
      by_cases hkl:k<xs.length
      · have hkI:(k:Int)<(xs.length:Int):=by omega
        have hk0:(0:Int)≤(k:Int):=by omega
        obtain ⟨g6,c6,e6,hcap6⟩:=own_posF HOp.out (by omega)
        simp only [Value.slice.injEq,true_and] at e6
        obtain ⟨rfl,rfl⟩:=e6
        obtain ⟨q0,q1⟩:=fau_two xs k hkl
        have da:=(HOp.out.cellAt (k * 2) (by omega)).trans q0
        have db:=(HOp.out.cellAt (k * 2+1) (by omega)).trans q1
        have HSk:=Lib.hid (HFl.out k hkl)
        obtain ⟨r1,hr1⟩:∃ r1,xs[k].1=r1:=⟨_,rfl⟩
        obtain ⟨r2,hr2⟩:∃ r2,xs[k].2=r2:=⟨_,rfl⟩
        rw [hr1] at da HSk
        rw [hr2] at db HSk
        clear q0 q1 hr1 hr2
        by_cases h3:r1<3
        · have h3I:(r1:Int)<3:=by omega
          have SOk:=SOs.out wp.drew (HLp.out.mc.below (Below.refl _ _).drew) (r2:Int)
          rw [HSk.out h3] at SOk
          have HSO:=Lib.hid SOk
          have HS17:Hid (∀ W',Below wp.heap.size wp W'→(W'.cell? ⟨w.heap.size,0,none⟩=some (.string m.nm)∧W'.cell? ⟨w.heap.size,1,none⟩=some (.slice p.a1 m.vars.length p.c1)∧W'.cell? ⟨w.heap.size,2,none⟩=some (.slice p.a2 m.evs.length p.c2)∧W'.cell? ⟨w.heap.size,3,none⟩=some (.slice p.a3 m.regs.length p.c3)∧W'.cell? ⟨w.heap.size,4,none⟩=some (.slice p.a4 m.vers.length p.c4)∧W'.cell? ⟨w.heap.size,5,none⟩=some (.slice p.a5 m.trns.length p.c5))∧W'.cell? ⟨g6,k * 2,none⟩=some (.int .u8 r1)∧W'.cell? ⟨g6,k * 2+1,none⟩=some (.int .i64 r2)):=Lib.hid fun W' g=>by
            obtain ⟨z0,z1,z2,z3,z4,z5,_⟩:=(HLp.out.mc.mb.box).below g HLp.out.mc.mb.box.sl
            have hg6:=(HOp.out.lt g6 rfl).2
            exact ⟨⟨z0,z1,z2,z3,z4,z5⟩,(g.cell (p:=⟨g6,k * 2,none⟩) hg6).trans da,(g.cell (p:=⟨g6,k * 2+1,none⟩) hg6).trans db⟩
          have hB0:Below wp.heap.size wp wp:=Below.refl _ _
          clear SOk x0 x1 x2 x3 x4 x5 da db h3 HSk
          go_upto_region 17 with fail
          refine wp_region_any (by kernel_rfl) ?_
          change wpAny _ _ _ _ _ _ _ (World.drew _)
          refine wpAny_of_heldS (S:=(fun W'=>(W'.cell? ⟨w.heap.size,0,none⟩=some (.string m.nm)∧W'.cell? ⟨w.heap.size,1,none⟩=some (.slice p.a1 m.vars.length p.c1)∧W'.cell? ⟨w.heap.size,2,none⟩=some (.slice p.a2 m.evs.length p.c2)∧W'.cell? ⟨w.heap.size,3,none⟩=some (.slice p.a3 m.regs.length p.c3)∧W'.cell? ⟨w.heap.size,4,none⟩=some (.slice p.a4 m.vers.length p.c4)∧W'.cell? ⟨w.heap.size,5,none⟩=some (.slice p.a5 m.trns.length p.c5))∧W'.cell? ⟨g6,k * 2,none⟩=some (.int .u8 r1)∧W'.cell? ⟨g6,k * 2+1,none⟩=some (.int .i64 r2))) ?_ (fun hHeld=>?_)
          · (try dsimp only) <;> (first | exact HS17.out _ hB0.drew | exact HS17.out _ (below_ch hB0.drew g9))
          refine tk 0 rfl ?_
          try simp only [Act.put,lyA,lyZ,lyS]
          refine tk 1 rfl ?_
          try simp only [Act.put,lyA,lyZ,lyS]
          refine tk 2 rfl ?_
          try simp only [Act.put,lyA,lyZ,lyS]
          refine tk 3 rfl ?_
          try simp only [Act.put,lyA,lyZ,lyS]
          refine tk 4 rfl ?_
          try simp only [Act.put,lyA,lyZ,lyS]
          refine tk 5 rfl ?_
          try simp only [Act.put,lyA,lyZ,lyS]
          refine tk 6 rfl ?_
          try simp only [Act.put,lyA,lyZ,lyS]
          refine tk 7 rfl ?_
          try simp only [Act.put,lyA,lyZ,lyS]
          refine tk 8 rfl ?_
          try simp only [Act.put,lyA,lyZ,lyS]
          refine tk 9 rfl ?_
          try simp only [Act.put,lyA,lyZ,lyS]
          refine tk 10 rfl ?_
          try simp only [Act.put,lyA,lyZ,lyS]
          refine tk 11 rfl ?_
          try simp only [Act.put,lyA,lyZ,lyS]
          refine tk 12 rfl ?_
          try simp only [Act.put,lyA,lyZ,lyS]
          refine rdy [13] ?_
          refine rdC rfl (fun K hK=>?_) ?_
          (go_simp;(with_reducible refine (HSO.out).mono ?_);rintro e w9 ⟨rfl,g9⟩;go_wp2_with fail)
          refine hK.out _ _ ?_ (fun hH1=>?_)
          · (try dsimp only) <;> (first | exact HS17.out _ hB0.drew | exact HS17.out _ (below_ch hB0.drew g9))
          clear hK K hHeld
          try simp only [Act.put,lyA,lyZ,lyS]
          refine tk 14 rfl ?_
          try simp only [Act.put,lyA,lyZ,lyS]
          refine wpAnyH_done (by kernel_rfl) ?_ _
          rotate_left
          exact AllReadyH.nil
          all_goals
            go_wp2_with fail
            go_roundw
            case rel=>exact ⟨k+1,by omega,by go_num,below_ch HBp.out (below_ch hB0.drew g9)⟩
            case measure=>simp [intOf] <;> omega
        · have h3I:¬ ((r1:Int)<3):=by omega
          clear h3 HSk
          go_upto_region 17 with fail
          go_quiet (fail)
          go_wp2_with fail
          go_roundw
          case rel=>exact ⟨k+1,by omega,by go_num,below_drewN HBp.out _⟩
          case measure=>simp [intOf] <;> omega
      · obtain rfl:k=xs.length:=by omega
        have HMc:=Lib.hid HLp.out.mc
        have HKp:=Lib.hid (fun wx (g:Below wp.heap.size wp wx)=>HKc.out wx (below_ch HBo.out (below_ch HBp.out g)))
        have NW10:=Lib.hid (NWs.out wp HLp.out.mc)
        have d0:=HLp.out.mc.d0
        have d1:=HLp.out.mc.d1
        clear hkl hk HOp HOo HOc HFl HLo HLc HBo HBp HLp SOs NWs HCk HNr HFd HKc
        go_wp2_with fail
        (with_reducible refine (NW10.out).mono ?_)
        rintro e w10 ⟨g10,(⟨_,SB,rfl,hset⟩ | ⟨hne,rfl⟩)⟩
        rotate_left
        · exact absurd (by rw [HF1.out.h0]) hne
        have HM10:=Lib.hid (HMc.out.below g10)
        have HK10:=Lib.hid (fun wx (g:Below w10.heap.size w10 wx)=>HKp.out wx (below_ch g10 g))
        have hz10:w.heap.size+1+1≤wp.heap.size:=by have:=HMc.out.sz;omega
        clear HKp
        have HSet:=Lib.hid hset
        have LG10:=LGs.out w10 HM10.out
        rw [show legB m la ll=legM m la by unfold legB;rw [HE.out];rfl] at LG10
        clear NW10 hset g10 HMc x0 x1 x2 x3 x4 x5 d0 d1
        obtain ⟨x0,x1,x2,x3,x4,x5,_⟩:=HM10.out.mb.box
        have d0:=HM10.out.d0
        have d1:=HM10.out.d1
        cases fa
        · clear LG10 LGs
          go_wp2_with fail
          (with_reducible refine (WK.out _ HM10.out.mb.bel).mono ?_)
          rintro e w11 ⟨rfl,g11⟩
          go_wp2_with fail
          go_ret
          exact ⟨rfl,(HM10.out.below g11).mb.bel⟩
        cases hgm:legM m la with
        | false =>
         rw [hgm] at LG10
         have HLG:=Lib.hid LG10
         clear LG10 hgm LGs
         go_wp2_with fail
         (with_reducible refine (HLG.out).mono ?_)
         rintro e w11 ⟨rfl,g11⟩
         have HM11:=Lib.hid (HM10.out.below g11)
         go_wp2_with fail
         (with_reducible refine (WK.out _ HM11.out.mb.bel).mono ?_)
         rintro e w12 ⟨rfl,g12⟩
         go_wp2_with fail
         go_ret
         exact ⟨rfl,(HM11.out.below g12).mb.bel⟩
        | true =>
         rw [hgm] at LG10
         have HLG:=Lib.hid LG10
         have HGm:=Lib.hid hgm
         clear LG10 hgm
         go_wp2_with fail
         (with_reducible refine (HLG.out).mono ?_)
         rintro e w11 ⟨rfl,g11⟩
         have HM11:=Lib.hid (HM10.out.below g11)
         have g11':=g11
         have HS11:=Lib.hid (HSet.out.grown g11)
         have EX:=Lib.hid (exits_any HS11.out HF1.out.h0 (by omega) (by omega) la ll a1 a2 c1 c2 HM11.out.r1 HM11.out.r2 (by have:=hS.out.a;omega) (by have:=hS.out.b;omega) r)
         clear HLG g11 HM10 HSet x0 x1 x2 x3 x4 x5 d0 d1
         have d0:=HM11.out.d0
         have d1:=HM11.out.d1
         go_wp2_with fail
         (with_reducible refine (EX.out).mono ?_)
         rintro e w12 ⟨vx,rfl,ox,g12⟩
         obtain ⟨xa,xc,rfl⟩:=own_sliceF ox
         have HM12:=Lib.hid (HM11.out.below g12)
         have HK12:=Lib.hid (HK10.out w12 (below_ch g11' g12))
         have hz11:w.heap.size+1+1≤w11.heap.size:=by have:=g11'.size;have:=HM11.out.sz;omega
         have HS12:=Lib.hid (HS11.out.grown g12)
         have HX12:=Lib.hid ox
         have HXl:=Lib.hid (exits_len (la:=la) (ll:=ll) HF1.out.h0 r)
         have HLv:=Lib.hid (fun (i:Nat) (hi:i<(exitsM m la ll r).length)=>exits_leave HF1.out hi)
         have HAg:=Lib.hid (fun (d2:List Int) (hf:Fld m (leftM la (exitsM m la ll r)) d2) (hn:Nrm m d2) (hfull:∀ q:Nat,q<m.regs.length→someM m q=true)=>again_ok HF1.out HGm.out hf hn hfull)
         clear ox g12 EX HM11 HS11 d0 d1
         generalize exitsM m la ll r=X at *
         have HLv0:Hid (Lv m p la X xa xc wp.heap.size SB w11.heap.size 0 w w12):=Lib.hid ⟨HM12.out.mb,⟨ll,a1,a2,c1,c2,by rw [List.take_zero,left_nil];exact ⟨HM12.out.d0,HM12.out.d1,HM12.out.r1,HM12.out.r2,HM12.out.sz⟩,HF2.out⟩,⟨frz_b HK12.out 0,frz_b HK12.out 1⟩,nk_box HK12.out (by simp) (by simp),HS12.out,HX12.out⟩
         have HBs:=Lib.hid (show w.heap.size+1<wp.heap.size by omega)
         have hX40:X.length≤40:=by have:=HXl.out;omega
         clear HK10 HK12 HM12 HS12 HX12
         go_wp2_with fail
         go_loopw [17] (fun i wr=>∃ k:Nat,k≤X.length∧i=.int .i64 k∧Lv m p la X xa xc wp.heap.size SB w11.heap.size k w wr) (fun i _=>X.length - (intOf i).toNat)
         case atStart=>exact ⟨0,by omega,rfl,HLv0.out⟩
         case round =>
          obtain ⟨wo,rfl⟩:∃ wo:World,wo=wr:=⟨_,rfl⟩
          obtain ⟨k,hk,rfl,hlv⟩:=hrel
          have HLvo:=Lib.hid hlv
          clear HLv0
          obtain ⟨l',y3,y4,z3,z4,hc,hf'⟩:=hlv.cb
          have HCb:=Lib.hid hc
          have HFl':=Lib.hid hf'
          have hsz:=hc.lt
          clear hlv hc hf'
          by_cases hkl:k<X.length
          · have hkI:(k:Int)<(X.length:Int):=by omega
            have hk0:(0:Int)≤(k:Int):=by omega
            obtain ⟨gx,cx,ex,hcapx⟩:=own_posF HLvo.out.ox (by omega)
            simp only [Value.slice.injEq,true_and] at ex
            obtain ⟨rfl,rfl⟩:=ex
            have hgx:=(HLvo.out.ox.lt gx rfl).2
            have cxk:=(HLvo.out.ox.cellAt k (by omega)).trans (show (nums X)[k]? = some (.int .i64 X[k]) by simp [nums,hkl])
            obtain ⟨hlo,hla⟩:=HLv.out k hkl
            have hst:=(act_at hla).1
            have HTk:=Lib.hid (left_take HF1.out hkl hla)
            obtain ⟨n1,hn1⟩:∃ n1,(leftM la (X.take k)).length=n1:=⟨_,rfl⟩
            obtain ⟨n2,hn2⟩:∃ n2,l'.length=n2:=⟨_,rfl⟩
            have LVk:=Lib.hid (fun wx (g:Below wo.heap.size wo wx)=>leave_is (HLvo.out.st.grown g) (by omega) (by omega) (HCb.out.below g) (fit_left HF1.out _) HFl'.out X[k] hst hlo hn1 hn2)
            rw [HTk.out] at LVk
            have HFn:Hid (Fit m (l'.set (rgA m X[k]).toNat X[k])):=Lib.hid (by
              obtain ⟨q,hq,eq,_⟩:=stands_in HF1.out.h0 hst
              rw [eq] at hst ⊢
              exact fit_set HFl'.out hst)
            have HN1:Hid (n1=(leftM la (X.take (k+1))).length):=Lib.hid (by rw [← hn1,left_len,left_len])
            have HN2:Hid (n2=(l'.set (rgA m X[k]).toNat X[k]).length):=Lib.hid (by rw [List.length_set,hn2])
            have d0:=HCb.out.d0
            have d1:=HCb.out.d1
            rw [hn1] at d0
            rw [hn2] at d1
            generalize l'.set (rgA m X[k]).toNat X[k]=l2 at *
            generalize X[k]=x at *
            have HSS:Hid (∀ W',Below wo.heap.size wo W'→W'.cell? ⟨w.heap.size+1,0,none⟩=some (.slice y3 n1 z3)∧W'.cell? ⟨w.heap.size+1,1,none⟩=some (.slice y4 n2 z4)∧W'.cell? ⟨gx,k,none⟩=some (.int .i64 x)):=Lib.hid fun W' g=>⟨(g.cell (p:=⟨w.heap.size+1,0,none⟩) hsz).trans d0,(g.cell (p:=⟨w.heap.size+1,1,none⟩) hsz).trans d1,(g.cell (p:=⟨gx,k,none⟩) hgx).trans cxk⟩
            have hB0:Below wo.heap.size wo wo:=Below.refl _ _
            clear hlo hla hst HTk hn1 hn2 d0 d1 cxk HLv HFl' HCb
            go_upto_region 28 with fail
            refine wp_region_any (by kernel_rfl) ?_
            change wpAny _ _ _ _ _ _ _ (World.drew _)
            refine wpAny_sink (n:=12) (o:=⟨some 19,.assign (.tmp 130),61, "law.go:123", #[⟨9,.data⟩,⟨11,.chain⟩,⟨0,.phase⟩,⟨1,.phase⟩,⟨2,.phase⟩,⟨3,.phase⟩,⟨4,.phase⟩,⟨5,.phase⟩,⟨6,.phase⟩,⟨7,.phase⟩,⟨8,.phase⟩,⟨9,.phase⟩,⟨10,.phase⟩,⟨11,.phase⟩],none⟩) (ops':=#[⟨some 122,.move (.tmp 14),77, "law.go:123", #[],none⟩,⟨some 123,.load 74 (.tmp 4),74, "law.go:123", #[],none⟩,⟨some 124,.move (.tmp 16),31, "law.go:123", #[],none⟩,⟨some 125,.move (.tmp 17),3, "law.go:123", #[],none⟩,⟨some 126,.indexAddr 31 (.tmp 124) (.tmp 125),0, "law.go:123", #[⟨2,.data⟩,⟨3,.data⟩],none⟩,⟨some 127,.load 3 (.tmp 126),3, "law.go:123", #[⟨4,.data⟩],none⟩,⟨some 128,.call { callee:=.value (.func 131),args:=#[.tmp 122,.tmp 123,.tmp 127],argTypes:=#[77,74,3] },160, "law.go:123", #[⟨0,.data⟩,⟨1,.data⟩,⟨5,.data⟩],none⟩,⟨some 121,.move (.tmp 128),160, "law.go:123", #[⟨6,.data⟩],none⟩,⟨some 129,.extract (.tmp 121) 0,74, "law.go:123", #[⟨7,.data⟩],none⟩,⟨some 130,.extract (.tmp 121) 1,61, "law.go:123", #[⟨7,.data⟩,{ on:=11,ground:=.gcOnly Go.Departure.lateStores }],none⟩,⟨some 18,.alloc 74,0, "law.go:123", #[],none⟩,⟨none,.store 74 (.tmp 18) (.tmp 129),0, "law.go:123", #[⟨10,.data⟩,⟨8,.data⟩,⟨6,.chain⟩,⟨0,.phase⟩,⟨1,.phase⟩,⟨2,.phase⟩,⟨3,.phase⟩,⟨4,.phase⟩,⟨5,.phase⟩,⟨6,.phase⟩,⟨7,.phase⟩,⟨8,.phase⟩,{ on:=9,ground:=.textOnly Go.Departure.lateStores },⟨10,.phase⟩],none⟩]) (by decide) (by kernel_rfl) (by rfl) (by rfl) ?_
            refine wpAny_of_heldS (S:=(fun W'=>W'.cell? ⟨w.heap.size+1,0,none⟩=some (.slice y3 n1 z3)∧W'.cell? ⟨w.heap.size+1,1,none⟩=some (.slice y4 n2 z4)∧W'.cell? ⟨gx,k,none⟩=some (.int .i64 x))) ?_ (fun hHeld=>?_)
            · (try dsimp only) <;> (first | exact HSS.out _ hB0.drew | exact HSS.out _ (hB0.alloc (Nat.le_refl _) _).drew | exact HSS.out _ hB9 | exact HSS.out _ (hB9.alloc hB9.size _) | exact HSS.out _ ((hB9.setCell (p:=⟨wo.heap.size,0,none⟩) (Nat.le_refl _) _).setCell (p:=⟨wo.heap.size,1,none⟩) (Nat.le_refl _) _) | exact HSS.out _ (((hB9.alloc hB9.size _).setCell (p:=⟨w9.heap.size,0,none⟩) hB9.size _).setCell (p:=⟨w9.heap.size,1,none⟩) hB9.size _))
            refine tk 0 rfl ?_
            try simp only [Act.put,lyA,lyZ,lyS]
            refine tk 1 rfl ?_
            try simp only [Act.put,lyA,lyZ,lyS]
            refine tk 2 rfl ?_
            try simp only [Act.put,lyA,lyZ,lyS]
            refine tk 3 rfl ?_
            try simp only [Act.put,lyA,lyZ,lyS]
            refine tk 4 rfl ?_
            try simp only [Act.put,lyA,lyZ,lyS]
            refine tk 5 rfl ?_
            try simp only [Act.put,lyA,lyZ,lyS]
            refine rdy [6,10] ?_
            refine rdC rfl (fun K hK=>?_) ?_
            (go_simp;(with_reducible refine (LVk.out _ (by first | exact hB0.drew | exact (hB0.alloc (Nat.le_refl _) _).drew)).mono ?_);rintro e w9 ⟨u1,u2,t1,t2,rfl,g9,o1,o2⟩;have hB9:Below wo.heap.size wo w9:=(by first | exact below_ch hB0.drew g9 | exact below_ch (hB0.alloc (Nat.le_refl _) _).drew g9);(first | (have zA:w9.heap[wo.heap.size]? = some (.cells #[.slice none 0 0,.slice none 0 0] 74 (0,0)):=(g9.block _ (by simp)).trans (World.alloc_heap_new wo (.cells #[.slice none 0 0,.slice none 0 0] 74));have za0:=cell_blk zA 0;have za1:=cell_blk zA 1;have za2:=frz_b zA 0;have za3:=frz_b zA 1;simp only [List.getElem?_toArray,List.getElem?_cons_zero,List.getElem?_cons_succ] at za0 za1) | skip);go_wp2_with fail)
            refine hK.out _ _ ?_ (fun hH1=>?_)
            · (try dsimp only) <;> (first | exact HSS.out _ hB0.drew | exact HSS.out _ (hB0.alloc (Nat.le_refl _) _).drew | exact HSS.out _ hB9 | exact HSS.out _ (hB9.alloc hB9.size _) | exact HSS.out _ ((hB9.setCell (p:=⟨wo.heap.size,0,none⟩) (Nat.le_refl _) _).setCell (p:=⟨wo.heap.size,1,none⟩) (Nat.le_refl _) _) | exact HSS.out _ (((hB9.alloc hB9.size _).setCell (p:=⟨w9.heap.size,0,none⟩) hB9.size _).setCell (p:=⟨w9.heap.size,1,none⟩) hB9.size _))
            clear hK K hHeld
            try simp only [Act.put,lyA,lyZ,lyS]
            refine tk 7 rfl ?_
            try simp only [Act.put,lyA,lyZ,lyS]
            refine tk 8 rfl ?_
            try simp only [Act.put,lyA,lyZ,lyS]
            refine tk 9 rfl ?_
            try simp only [Act.put,lyA,lyZ,lyS]
            refine rdy [10] ?_
            refine rdC rfl (fun K hK=>?_) ?_
            (go_simp)
            refine hK.out _ _ ?_ (fun hH2=>?_)
            · (try dsimp only) <;> (first | exact HSS.out _ hB0.drew | exact HSS.out _ (hB0.alloc (Nat.le_refl _) _).drew | exact HSS.out _ hB9 | exact HSS.out _ (hB9.alloc hB9.size _) | exact HSS.out _ ((hB9.setCell (p:=⟨wo.heap.size,0,none⟩) (Nat.le_refl _) _).setCell (p:=⟨wo.heap.size,1,none⟩) (Nat.le_refl _) _) | exact HSS.out _ (((hB9.alloc hB9.size _).setCell (p:=⟨w9.heap.size,0,none⟩) hB9.size _).setCell (p:=⟨w9.heap.size,1,none⟩) hB9.size _))
            clear hK K hH1
            try simp only [Act.put,lyA,lyZ,lyS]
            refine rdy [11] ?_
            refine rdC rfl (fun K hK=>?_) ?_
            (go_simp)
            refine hK.out _ _ ?_ (fun hH3=>?_)
            · (try dsimp only) <;> (first | exact HSS.out _ hB0.drew | exact HSS.out _ (hB0.alloc (Nat.le_refl _) _).drew | exact HSS.out _ hB9 | exact HSS.out _ (hB9.alloc hB9.size _) | exact HSS.out _ ((hB9.setCell (p:=⟨wo.heap.size,0,none⟩) (Nat.le_refl _) _).setCell (p:=⟨wo.heap.size,1,none⟩) (Nat.le_refl _) _) | exact HSS.out _ (((hB9.alloc hB9.size _).setCell (p:=⟨w9.heap.size,0,none⟩) hB9.size _).setCell (p:=⟨w9.heap.size,1,none⟩) hB9.size _))
            clear hK K hH2
            try simp only [Act.put,lyA,lyZ,lyS]
            refine wpAnyH_done (by kernel_rfl) ?_ _
            rotate_left
            exact AllReadyH.nil
            exact AllReadyH.nil
            refine rdC rfl (fun K hK=>?_) ?_
            (go_simp)
            refine hK.out _ _ ?_ (fun hH4=>?_)
            · (try dsimp only) <;> (first | exact HSS.out _ hB0.drew | exact HSS.out _ (hB0.alloc (Nat.le_refl _) _).drew | exact HSS.out _ hB9 | exact HSS.out _ (hB9.alloc hB9.size _) | exact HSS.out _ ((hB9.setCell (p:=⟨wo.heap.size,0,none⟩) (Nat.le_refl _) _).setCell (p:=⟨wo.heap.size,1,none⟩) (Nat.le_refl _) _) | exact HSS.out _ (((hB9.alloc hB9.size _).setCell (p:=⟨w9.heap.size,0,none⟩) hB9.size _).setCell (p:=⟨w9.heap.size,1,none⟩) hB9.size _))
            clear hK K hHeld
            try simp only [Act.put,lyA,lyZ,lyS]
            refine rdy [6] ?_
            refine rdC rfl (fun K hK=>?_) ?_
            (go_simp;(with_reducible refine (LVk.out _ (by first | exact hB0.drew | exact (hB0.alloc (Nat.le_refl _) _).drew)).mono ?_);rintro e w9 ⟨u1,u2,t1,t2,rfl,g9,o1,o2⟩;have hB9:Below wo.heap.size wo w9:=(by first | exact below_ch hB0.drew g9 | exact below_ch (hB0.alloc (Nat.le_refl _) _).drew g9);(first | (have zA:w9.heap[wo.heap.size]? = some (.cells #[.slice none 0 0,.slice none 0 0] 74 (0,0)):=(g9.block _ (by simp)).trans (World.alloc_heap_new wo (.cells #[.slice none 0 0,.slice none 0 0] 74));have za0:=cell_blk zA 0;have za1:=cell_blk zA 1;have za2:=frz_b zA 0;have za3:=frz_b zA 1;simp only [List.getElem?_toArray,List.getElem?_cons_zero,List.getElem?_cons_succ] at za0 za1) | skip);go_wp2_with fail)
            refine hK.out _ _ ?_ (fun hH5=>?_)
            · (try dsimp only) <;> (first | exact HSS.out _ hB0.drew | exact HSS.out _ (hB0.alloc (Nat.le_refl _) _).drew | exact HSS.out _ hB9 | exact HSS.out _ (hB9.alloc hB9.size _) | exact HSS.out _ ((hB9.setCell (p:=⟨wo.heap.size,0,none⟩) (Nat.le_refl _) _).setCell (p:=⟨wo.heap.size,1,none⟩) (Nat.le_refl _) _) | exact HSS.out _ (((hB9.alloc hB9.size _).setCell (p:=⟨w9.heap.size,0,none⟩) hB9.size _).setCell (p:=⟨w9.heap.size,1,none⟩) hB9.size _))
            clear hK K hH4
            try simp only [Act.put,lyA,lyZ,lyS]
            refine tk 7 rfl ?_
            try simp only [Act.put,lyA,lyZ,lyS]
            refine tk 8 rfl ?_
            try simp only [Act.put,lyA,lyZ,lyS]
            refine tk 9 rfl ?_
            try simp only [Act.put,lyA,lyZ,lyS]
            refine rdy [11] ?_
            refine rdC rfl (fun K hK=>?_) ?_
            (go_simp)
            refine hK.out _ _ ?_ (fun hH6=>?_)
            · (try dsimp only) <;> (first | exact HSS.out _ hB0.drew | exact HSS.out _ (hB0.alloc (Nat.le_refl _) _).drew | exact HSS.out _ hB9 | exact HSS.out _ (hB9.alloc hB9.size _) | exact HSS.out _ ((hB9.setCell (p:=⟨wo.heap.size,0,none⟩) (Nat.le_refl _) _).setCell (p:=⟨wo.heap.size,1,none⟩) (Nat.le_refl _) _) | exact HSS.out _ (((hB9.alloc hB9.size _).setCell (p:=⟨w9.heap.size,0,none⟩) hB9.size _).setCell (p:=⟨w9.heap.size,1,none⟩) hB9.size _))
            clear hK K hH5
            try simp only [Act.put,lyA,lyZ,lyS]
            refine wpAnyH_done (by kernel_rfl) ?_ _
            rotate_left
            exact AllReadyH.nil
            exact AllReadyH.nil
            exact AllReadyH.nil
            all_goals
              refine sinkQ_of fun K hK=>?_
              go_simp
              refine hK _ _ ?_
              clear hK K
              first
                | (have HN0:=n18_a (zA:=zA) hB9 (by simp) o1 o2
                   generalize ((w9.setCell ⟨wo.heap.size,0,none⟩ (.slice u1 n1 t1)).setCell ⟨wo.heap.size,1,none⟩ (.slice u2 n2 t2))=W18 at HN0 ⊢
                   have HN:=Lib.hid HN0
                   have HLv18:=Lib.hid (HLvo.out.below HN0.bel)
                   have c0:=HN0.c0
                   have c1:=HN0.c1
                   obtain ⟨m1,y5,y6,z5,z6,hcb,_⟩:=HLv18.out.cb
                   have k0:=hcb.d0
                   have k1:=hcb.d1
                   obtain ⟨f8,f9⟩:=HLv18.out.fz
                   have HNx:=Lib.hid (HLv18.out.next HBs.out (by have:=HBs.out;omega) (by omega) HFn.out HN1.out HN2.out HN0.o1 HN0.o2)
                   clear HN0 hcb
                   go_wp2_with fail
                   go_roundw
                   case rel=>exact ⟨k+1,by omega,by go_num,HNx.out⟩
                   case measure=>simp [intOf] <;> omega)
                | (have HN0:=n18_b hB9 (by simp) o1 o2
                   generalize w9.alloc (.cells #[.slice u1 n1 t1,.slice u2 n2 t2] 74)=W18 at HN0 ⊢
                   have HN:=Lib.hid HN0
                   have HLv18:=Lib.hid (HLvo.out.below HN0.bel)
                   have c0:=HN0.c0
                   have c1:=HN0.c1
                   obtain ⟨m1,y5,y6,z5,z6,hcb,_⟩:=HLv18.out.cb
                   have k0:=hcb.d0
                   have k1:=hcb.d1
                   obtain ⟨f8,f9⟩:=HLv18.out.fz
                   have HNx:=Lib.hid (HLv18.out.next HBs.out (by have:=HBs.out;omega) (by omega) HFn.out HN1.out HN2.out HN0.o1 HN0.o2)
                   clear HN0 hcb
                   go_wp2_with fail
                   go_roundw
                   case rel=>exact ⟨k+1,by omega,by go_num,HNx.out⟩
                   case measure=>simp [intOf] <;> omega)
          · obtain rfl:k=X.length:=by omega
            clear hkl hk
            have HBx:=Lib.hid HLvo.out.mb
            rw [List.take_length] at HCb
            have hn1:(leftM la X).length≤1000:=by rw [left_len,HF1.out.hl];omega
            have hn2:l'.length≤1000:=by rw [HFl'.out.hl];omega
            have hE2:chkE m (leftM la X) l'=0:=chk_fit (fit_left HF1.out _) HFl'.out
            have FL2:=Lib.hid (fill_any m p (leftM la X) l' y3 y4 z3 z4 wo HBx.out.mod HOk.out (HTn.out _ HBx.out.bel) HCb.out.r1 HCb.out.r2 (by omega) (by omega) (by omega) (by omega) (by have:=hS.out.tr;omega))
            have hfull:∀ q:Nat,q<m.regs.length→someM m q=true:=fun q hq=>by
              have:=HFa.out
              rw [List.all_eq_true] at this
              exact this q (List.mem_range.2 hq)
            have HEn:Hid (∀ d2:List Int,Fld m (leftM la X) d2→Nrm m d2→legB m d2 l'=true):=Lib.hid fun d2 hf hn=>by
              unfold legB
              rw [chk_fill hE2 hf,HAg.out d2 hf hn hfull];rfl
            have HE2:=Lib.hid hE2
            have HTr:=Lib.hid hS.out.tr
            obtain ⟨x0,x1,x2,x3,x4,x5,_⟩:=HBx.out.box
            have d0:=HCb.out.d0
            have d1:=HCb.out.d1
            unfold mdV at FL2
            clear hE2 hfull HLvo HLv HAg HFa HCb HFl'
            generalize leftM la X=lx at *
            go_wp2_with fail
            (with_reducible refine (FL2.out).mono ?_)
            rintro e w13 ⟨g13,(⟨hE,_⟩ | ⟨hE,d2,v1,v2,rfl,hfd,hnr,o1,o2,hdj⟩)⟩
            · exact absurd HE2.out hE
            have hdl:=hfd.len
            have HLb:=Lib.hid (HEn.out d2 hfd hnr)
            obtain ⟨u1,t1,rfl⟩:=ownsRow_slice o1
            obtain ⟨u2,t2,rfl⟩:=ownsRow_slice o2
            have HB14:Hid (Mb m p w.heap.size w (w13.alloc (.cells #[.slice u1 d2.length t1,.slice u2 l'.length t2] 74))):=Lib.hid ((HBx.out.below g13).below (below_al1 _ _))
            have c0:(w13.alloc (.cells #[.slice u1 d2.length t1,.slice u2 l'.length t2] 74)).cell? ⟨w13.heap.size,0,none⟩=some (.slice u1 d2.length t1):=by simp
            have c1:(w13.alloc (.cells #[.slice u1 d2.length t1,.slice u2 l'.length t2] 74)).cell? ⟨w13.heap.size,1,none⟩=some (.slice u2 l'.length t2):=by simp
            have LG14:=legal_any m p d2 l' u1 u2 t1 t2 _ HB14.out.mod HOk.out (HTn.out _ HB14.out.bel) ((RowIn.own o1).below (below_al1 _ _)) ((RowIn.own o2).below (below_al1 _ _)) (by omega) (by omega) (by omega) (by omega) (by have:=HTr.out;omega)
            rw [HLb.out] at LG14
            have HLG:=Lib.hid LG14
            unfold mdV at HLG
            clear LG14 o1 o2 hdj hnr hfd hdl hE x0 x1 x2 x3 x4 x5 d0 d1 g13 FL2 HEn
            go_upto_region 33 with fail
            generalize w13.alloc (.cells #[.slice u1 d2.length t1,.slice u2 l'.length t2] 74)=W14 at *
            obtain ⟨x0,x1,x2,x3,x4,x5,_⟩:=HB14.out.box
            go_wp2_with fail
            (with_reducible refine (HLG.out).mono ?_)
            rintro e w15 ⟨rfl,g15⟩
            have HB15:=Lib.hid (HB14.out.below g15)
            go_wp2_with fail
            (with_reducible refine (WK.out _ HB15.out.bel).mono ?_)
            rintro e w16 ⟨rfl,g16⟩
            go_wp2_with fail
            go_ret
            exact ⟨rfl,(HB15.out.below g16).bel⟩
end Go.Proofs
