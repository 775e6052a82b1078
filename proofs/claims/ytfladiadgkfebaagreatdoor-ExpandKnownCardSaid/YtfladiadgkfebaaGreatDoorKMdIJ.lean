/- Walks: 'slices.Clone': the same elements, in memory of its own. -/
import Derived.Test.YtfladiadgkfebaaGreatDoorKMdAB
import Derived.Deep.AppendLies
import Derived.OwnWalk
namespace Go.Proofs
open Go.RowKit Go.Lx Go.Md Go.Shelf
set_option linter.unusedVariables false
def NewB (lo hi:Nat):BP:=fun b o=>lo<=b/\b<hi/\∃ cur T,o=some (.cells cur T (0,0))
def NewS (lo hi:Nat):BP:=fun b o=>lo<=b/\b<hi/\∃ cur,o=some (.cells cur 9 (0,0))
theorem NewS.newB {lo hi:Nat} {b:Nat} {o:Option Obj} (h:NewS lo hi b o):NewB lo hi b o:=by
 obtain ⟨h1,h2,cur,h⟩:=h;exact ⟨h1,h2,cur,_,h⟩
def OwnV (lo:Nat) (T:TypeId) (sz:Nat) (w:World) (v:Value):Prop:=(∃ a,v=.slice a 0 0)\/∃ g n c cur,v=.slice (some ⟨g,0,none⟩) n c/\lo<=g/\w.heap[g]? = some (.cells cur T (0,0))/\n<=c/\c<=maxLen/\cur.size=c * sz
theorem OwnV.of_row {lo:Nat} {T:TypeId} {sz n:Nat} {w:World} {v:Value} {xs:List Value} (h:w.ownsRow lo T sz v n xs):OwnV lo T sz w v:=by
 rcases h.2 with ⟨rfl,rfl⟩ | ⟨g,cap,cur,rfl,h1,h2,h3,h4,h5,_⟩
 . exact .inl ⟨_,rfl⟩
 . exact .inr ⟨g,n,cap,cur,rfl,h1,h2,h3,h4,h5⟩
theorem OwnV.mono {lo lo':Nat} {T:TypeId} {sz:Nat} {w:World} {v:Value} (h:OwnV lo T sz w v) (hl:lo'<=lo):OwnV lo' T sz w v:=by
 rcases h with h | ⟨g,n,cap,cur,rfl,h1,h2⟩
 . exact .inl h
 . exact .inr ⟨g,n,cap,cur,rfl,Nat.le_trans hl h1,h2⟩
theorem OwnV.below {lo:Nat} {T:TypeId} {sz:Nat} {w w':World} {v:Value} (h:OwnV lo T sz w v) (g:Bl w w'):OwnV lo T sz w' v:=by
 rcases h with h | ⟨b,n,cap,cur,rfl,h1,h2,h3⟩
 . exact .inl h
 . exact .inr ⟨b,n,cap,cur,rfl,h1,(g.block b (Array.getElem?_eq_some_iff.1 h2).1).trans h2,h3⟩
theorem OwnV.set {lo:Nat} {T:TypeId} {sz:Nat} {w:World} {v:Value} (h:OwnV lo T sz w v) (a:Addr) (u:Value):OwnV lo T sz (w.setCell a u) v:=by
 rcases h with h | ⟨b,n,cap,cur,rfl,h1,h2,h3,h4,h5⟩
 . exact .inl h
 . by_cases hab:b=a.block
   . subst hab
     have e:∃ cur',(w.setCell a u).heap[a.block]? = some (.cells cur' T (0,0))/\cur'.size=cur.size:=by
       unfold World.setCell
       simp only [Array.getElem?_modify,if_true,h2,Option.map_some]
       cases a.spot with
       | none=>exact ⟨_,rfl,by simp⟩
       | some s=>exact ⟨_,rfl,by simp⟩
     obtain ⟨cur',e1,e2⟩:=e
     exact .inr ⟨a.block,n,cap,cur',rfl,h1,e1,h3,h4,e2.trans h5⟩
   . exact .inr ⟨b,n,cap,cur,rfl,h1,(Below.heap_setCell w a u b hab).trans h2,h3,h4,h5⟩
structure Moves {α:Type} (sz:Nat) (E:World->Nat->Nat->α->Prop) (K:World->World->Prop):Prop where
 cell:∀ (w:World) (b o:Nat) (x:α),E w b o x->∀ j,j<sz->∃ u,w.cell? ⟨b,o+j,none⟩=some u/\u.oneCell'=true
 move:∀ (w w':World) (b o b' o':Nat) (x:α),E w b o x->K w w'->(∀ j,j<sz->w'.cell? ⟨b',o'+j,none⟩=w.cell? ⟨b,o+j,none⟩)->E w' b' o' x
def cellsAt (w:World) (b off n:Nat):List Value:=(List.range n).map fun j=>(w.cell? ⟨b,off+j,none⟩).getD (.bool false)
theorem cellsAt_len (w:World) (b off n:Nat):(cellsAt w b off n).length=n:=by simp [cellsAt]
theorem cellsAt_get {w:World} {b off n j:Nat} (h:j<n):(cellsAt w b off n)[j]? = some ((w.cell? ⟨b,off+j,none⟩).getD (.bool false)):=by
 simp [cellsAt,h]
theorem sl_cells {α:Type} {sz:Nat} {E:World->Nat->Nat->α->Prop} {K:World->World->Prop} (hE:Moves sz E K) {w:World} {b off:Nat} {l:List α} (h:∀ i (h:i<l.length),E w b (off+i * sz) l[i]) :
   ∀ j,j<l.length * sz->∃ u,w.cell? ⟨b,off+j,none⟩=some u/\u.oneCell'=true:=by
 intro j hj
 have hsz:0<sz:=by
   rcases Nat.eq_zero_or_pos sz with h0 | h0
   . subst h0;simp at hj
   . exact h0
 have hi:j / sz<l.length:=(Nat.div_lt_iff_lt_mul hsz).2 hj
 obtain ⟨u,h1,h2⟩:=hE.cell _ _ _ _ (h (j / sz) hi) (j % sz) (Nat.mod_lt _ hsz)
 have:off+j / sz * sz+j % sz=off+j:=by have:=Nat.div_add_mod j sz;rw [Nat.mul_comm] at this;omega
 rw [this] at h1
 exact ⟨u,h1,h2⟩
theorem cellsAt_cell {w:World} {b off n:Nat} (h:∀ j,j<n->∃ u,w.cell? ⟨b,off+j,none⟩=some u/\u.oneCell'=true) :
   (∀ j u,(cellsAt w b off n)[j]? = some u->w.cell? (Addr.add ⟨b,off,none⟩ j)=some u)/\∀ u ∈ cellsAt w b off n,u.oneCell'=true:=by
 constructor
 . intro j u hj
   by_cases hlt:j<n
   . obtain ⟨x,hx,_⟩:=h j hlt
     rw [cellsAt_get hlt,hx] at hj
     simp only [Option.getD_some,Option.some.injEq] at hj
     rw [Addr.add_lit,<- hj];exact hx
   . rw [List.getElem?_eq_none (by rw [cellsAt_len];omega)] at hj;cases hj
 . intro u hu
   unfold cellsAt at hu
   obtain ⟨j,hj,rfl⟩:=List.mem_map.1 hu
   obtain ⟨x,hx,h1⟩:=h j (List.mem_range.1 hj)
   rw [hx];exact h1
theorem owns_cells {w:World} {base T sz n:Nat} {v:Value} {xs:List Value} (h:w.ownsRow base T sz v n xs) (hn:0<n * sz) :
   ∃ g cap,v=.slice (some ⟨g,0,none⟩) n cap/\n<=cap/\base<=g/\g<w.heap.size/\(∃ cur,w.heap[g]? = some (.cells cur T (0,0)))/\∀ j,j<n * sz->w.cell? ⟨g,j,none⟩=xs[j]? := by
 obtain ⟨hl,⟨rfl,rfl⟩ | ⟨g,cap,cur,rfl,hb,hg,hc,_,hs,hx⟩⟩:=h
 . simp at hn
 . refine ⟨g,cap,rfl,hc,hb,(Array.getElem?_eq_some_iff.1 hg).1,⟨cur,hg⟩,fun j hj=>?_⟩
   unfold World.cell?
   simp only [hg]
   rw [<- hx,List.getElem?_take_of_lt hj]
   simp
theorem own_sl {α:Type} {sz:Nat} {E:World->Nat->Nat->α->Prop} {K:World->World->Prop} (hE:Moves sz E K) (hz:0<sz) {w w':World} {b off base T:Nat} {v':Value} {l:List α} (h:∀ i (h:i<l.length),E w b (off+i * sz) l[i])
   (hK:K w w') (ho:w'.ownsRow base T sz v' l.length (cellsAt w b off (l.length * sz))):∃ a c,v'=.slice a l.length c/\Sl (NewB base w'.heap.size) sz E w' (.slice a l.length c) l:=by
 cases l with
 | nil =>
  obtain ⟨_,⟨rfl,_⟩ | ⟨g,cap,cur,rfl,_⟩⟩:=ho
  . exact ⟨_,_,rfl,.inl ⟨_,_,rfl,rfl⟩⟩
  . exact ⟨_,_,rfl,.inl ⟨_,_,rfl,rfl⟩⟩
 | cons x t =>
  obtain ⟨g,cap,rfl,hcap,hb,hg,⟨cur,hcur⟩,hc⟩:=owns_cells ho (Nat.mul_pos (by simp) hz)
  refine ⟨_,_,rfl,.inr ⟨g,0,cap,rfl,hcap,hg,⟨hb,hg,cur,T,hcur⟩,fun i hi=>?_⟩⟩
  refine hE.move _ _ _ _ _ _ _ (h i hi) hK fun j hj=>?_
  have hlt:i * sz+j<(x :: t).length * sz:=by
    have:(i+1) * sz<=(x :: t).length * sz:=Nat.mul_le_mul_right _ hi
    rw [Nat.add_mul] at this;omega
  rw [show 0+i * sz+j=i * sz+j by omega,hc _ hlt,cellsAt_get hlt]
  obtain ⟨u,hu,_⟩:=sl_cells hE h _ hlt
  rw [hu,Option.getD_some,show off+i * sz+j=off+(i * sz+j) by omega,hu]
theorem VarE.moves:Moves 2 VarE fun _ _=>True where
 cell:=fun w b o x h j hj=>by
   have:j=0\/j=1:=by omega
   rcases this with rfl | rfl
   . exact ⟨_,h.1,rfl⟩
   . exact ⟨_,h.2,rfl⟩
 move:=fun w w' b o b' o' x h _ hc=>⟨(hc 0 (by omega)).trans h.1,(hc 1 (by omega)).trans h.2⟩
theorem RegE.moves:Moves 2 RegE fun _ _=>True where
 cell:=fun w b o x h j hj=>by
   have:j=0\/j=1:=by omega
   rcases this with rfl | rfl
   . exact ⟨_,h.1,rfl⟩
   . exact ⟨_,h.2,rfl⟩
 move:=fun w w' b o b' o' x h _ hc=>⟨(hc 0 (by omega)).trans h.1,(hc 1 (by omega)).trans h.2⟩
theorem VerE.moves {R:BP}:Moves 8 (VerE R) (Kept R) where
 cell:=fun w b o x h j hj=>by
   obtain ⟨dv,hd,h0,h1,h2,h3,h4,h5,h6,h7⟩:=h
   obtain ⟨a,c,rfl⟩:=hd.len
   have:j=0\/j=1\/j=2\/j=3\/j=4\/j=5\/j=6\/j=7:=by omega
   rcases this with rfl | rfl | rfl | rfl | rfl | rfl | rfl | rfl
   . exact ⟨_,h0,rfl⟩
   . exact ⟨_,h1,rfl⟩
   . exact ⟨_,h2,rfl⟩
   . exact ⟨_,h3,rfl⟩
   . exact ⟨_,h4,rfl⟩
   . exact ⟨_,h5,rfl⟩
   . exact ⟨_,h6,rfl⟩
   . exact ⟨_,h7,rfl⟩
 move:=fun w w' b o b' o' x h hk hc=>by
   obtain ⟨dv,hd,h0,h1,h2,h3,h4,h5,h6,h7⟩:=h
   exact ⟨dv,hd.kept hk,(hc 0 (by omega)).trans h0,(hc 1 (by omega)).trans h1,(hc 2 (by omega)).trans h2,(hc 3 (by omega)).trans h3,(hc 4 (by omega)).trans h4,(hc 5 (by omega)).trans h5,(hc 6 (by omega)).trans h6,(hc 7 (by omega)).trans h7⟩
theorem TrnE.moves {R:BP}:Moves 8 (TrnE R) (Kept R) where
 cell:=fun w b o x h j hj=>by
   obtain ⟨dv,hd,h0,h1,h2,h3,h4,h5,h6,h7⟩:=h
   obtain ⟨a,c,rfl⟩:=hd.len
   have:j=0\/j=1\/j=2\/j=3\/j=4\/j=5\/j=6\/j=7:=by omega
   rcases this with rfl | rfl | rfl | rfl | rfl | rfl | rfl | rfl
   . exact ⟨_,h0,rfl⟩
   . exact ⟨_,h1,rfl⟩
   . exact ⟨_,h2,rfl⟩
   . exact ⟨_,h3,rfl⟩
   . exact ⟨_,h4,rfl⟩
   . exact ⟨_,h5,rfl⟩
   . exact ⟨_,h6,rfl⟩
   . exact ⟨_,h7,rfl⟩
 move:=fun w w' b o b' o' x h hk hc=>by
   obtain ⟨dv,hd,h0,h1,h2,h3,h4,h5,h6,h7⟩:=h
   exact ⟨dv,hd.kept hk,(hc 0 (by omega)).trans h0,(hc 1 (by omega)).trans h1,(hc 2 (by omega)).trans h2,(hc 3 (by omega)).trans h3,(hc 4 (by omega)).trans h4,(hc 5 (by omega)).trans h5,(hc 6 (by omega)).trans h6,(hc 7 (by omega)).trans h7⟩
def TxtE (w:World) (b o:Nat) (x:ByteArray):Prop:=w.cell? ⟨b,o,none⟩=some (.string x)
def NumE (w:World) (b o:Nat) (x:Int):Prop:=w.cell? ⟨b,o,none⟩=some (.int .i64 x)
theorem SlS.sl {Q:BP} {w:World} {v:Value} {l:List ByteArray}:SlS Q w v l↔Sl Q 1 TxtE w v l:=by
 unfold SlS Sl TxtE;simp only [Nat.mul_one]
theorem SlI.sl {Q:BP} {w:World} {v:Value} {l:List Int}:SlI Q w v l↔Sl Q 1 NumE w v l:=by
 unfold SlI Sl NumE;simp only [Nat.mul_one]
theorem TxtE.moves:Moves 1 TxtE fun _ _=>True where
 cell:=fun w b o x h j hj=>by
   obtain rfl:j=0:=by omega
   exact ⟨_,h,rfl⟩
 move:=fun w w' b o b' o' x h _ hc=>(hc 0 (by omega)).trans h
theorem NumE.moves:Moves 1 NumE fun _ _=>True where
 cell:=fun w b o x h j hj=>by
   obtain rfl:j=0:=by omega
   exact ⟨_,h,rfl⟩
 move:=fun w w' b o b' o' x h _ hc=>(hc 0 (by omega)).trans h
theorem info_Var:(Tryz.prog.info? 89).map (fun i=>(i.zero,i.size,i.bytes))=some (some (.agg #[.string ⟨#[]⟩,.int .i64 0]),2,24):=by kernel_rfl
theorem info_Reg:(Tryz.prog.info? 57).map (fun i=>(i.zero,i.size,i.bytes))=some (some (.agg #[.string ⟨#[]⟩,.int .i64 0]),2,24):=by kernel_rfl
theorem info_Ver:(Tryz.prog.info? 49).map (fun i=>(i.zero,i.size,i.bytes))=some (some (.agg #[.string ⟨#[]⟩,.int .u8 0,.int .i64 0,.int .i64 0,.string ⟨#[]⟩,.string ⟨#[]⟩,.slice none 0 0,.string ⟨#[]⟩]),8,112):=by kernel_rfl
theorem info_Trn:(Tryz.prog.info? 59).map (fun i=>(i.zero,i.size,i.bytes))=some (some (.agg #[.string ⟨#[]⟩,.int .i64 0,.int .i64 0,.slice none 0 0,.int .i64 0,.string ⟨#[]⟩,.string ⟨#[]⟩,.int .u8 0]),8,104):=by kernel_rfl
theorem info_Txt:(Tryz.prog.info? 9).map (fun i=>(i.zero,i.size,i.bytes))=some (some (.string ⟨#[]⟩),1,16):=by kernel_rfl
theorem info_Num:(Tryz.prog.info? 3).map (fun i=>(i.zero,i.size,i.bytes))=some (some (.int .i64 0),1,8):=by kernel_rfl
def CloneP {α:Type} (T:TypeId) (sz:Nat) (E:World->Nat->Nat->α->Prop) (l:List α) (w:World) (e:Ending) (w':World):Prop :=
 ∃ a c,e=.returned (.slice a l.length c)/\Sl (NewB w.heap.size w'.heap.size) sz E w' (.slice a l.length c) l/\OwnV w.heap.size T sz w' (.slice a l.length c)/\Bl w w'
theorem cloneVar_some (ad:Addr) (n c:Nat) (news:List Value) (w:World) (hl:news.length=n * 2) (hn:n<=100000) (hc:∀ j u,news[j]? = some u->w.cell? (ad.add j)=some u) (h1:∀ u ∈ news,u.oneCell'=true) :
   Calls Tryz.prog 86 #[.slice (some ad) n c] w fun e w'=>∃ v',e=.returned v'/\w'.ownsRow w.heap.size 89 2 v' n news/\Bl w w':=by
 obtain ⟨i0,hi,hz0,hz1,hz2⟩:=info_parts info_Var
 have A:Aside (∀ j u,news[j]? = some u->w.cell? (ad.add j)=some u):=hc
 clear hc
 have q22:∀ (w:World) (a:Option Addr) (n c n' c':Nat),(binOp .eql 37 (.slice a n c) (.slice none n' c')).run Tryz.prog w=.ok (.bool a.isNone) w:=fun w a n c n' c'=>Lib.run_eql_slice_nil w _ _ a n c n' c' Tryz.underlying37
 go_enter Tryz.func86,Tryz.ntmps86
 go_wp2_with (at_builtin;refine wpList_append_own _ rfl _ _ 37 rfl w.heap.size 89 i0 _ 2 24 Tryz.underlying37 hi hz0 hz1 hz2 rfl (by decide) _ _ _ rfl (World.ownsRow_made w #[] 0 (Nat.le_refl _) (Nat.zero_le _) (by simp)) ad n c news rfl ?qc1 ?qc2 ?qc3 ?qc4 ?qc5 ?qc6 ?_)
 case qc1=>exact hl
 case qc2 =>
  intro j u hj
  exact Lib.cell?_alloc_some _ (A.out j u hj)
 case qc3=>exact h1
 case qc4=>unfold maxLen;omega
 case qc5=>omega
 case qc6=>simp
 intro v' w1 hown hgrow hnil
 go_wp2_with fail
 go_ret
 refine ⟨v',rfl,by simpa using hown,?_⟩
 exact ((Below.refl _ w).alloc (Nat.le_refl _) _).grown hgrow (by simp) (by intro k hk;simp [Value.ownBlock] at hk;omega)
theorem cloneVar_nil (n c:Nat) (w:World):Calls Tryz.prog 86 #[.slice none n c] w fun e w'=>e=.returned (.slice none 0 0)/\w=w':=by
 have q22:∀ (w:World) (a:Option Addr) (n c n' c':Nat),(binOp .eql 37 (.slice a n c) (.slice none n' c')).run Tryz.prog w=.ok (.bool a.isNone) w:=fun w a n c n' c'=>Lib.run_eql_slice_nil w _ _ a n c n' c' Tryz.underlying37
 go_enter Tryz.func86,Tryz.ntmps86
 go_wp2_with fail
 go_ret
 exact ⟨rfl,rfl⟩
theorem cloneVar {Q R:BP} (a:Option Addr) (c:Nat) (l:List VarD) (w:World) (hl:l.length<=100000) (h:Sl Q 2 VarE w (.slice a l.length c) l) :
   Calls Tryz.prog 86 #[.slice a l.length c] w (CloneP 89 2 VarE l w):=by
 rcases h.two with ⟨h0,rfl⟩ | ⟨_,b,off,rfl,hb,hq,hx⟩
 . cases a with
   | none =>
    refine (cloneVar_nil _ c w).mono ?_
    rintro e w' ⟨rfl,rfl⟩
    exact ⟨_,_,rfl,.inl ⟨_,_,rfl,rfl⟩,.inl ⟨_,rfl⟩,Below.refl _ _⟩
   | some ad =>
    refine (cloneVar_some ad 0 c [] w rfl (by omega) (fun j u hj=>by simp at hj) (fun u hu=>by cases hu)).mono ?_
    rintro e w' ⟨v',rfl,ho,hg⟩
    have hO:=OwnV.of_row ho
    obtain ⟨_,⟨rfl,_⟩ | ⟨g,cap,cur,rfl,_⟩⟩:=ho
    . exact ⟨_,_,rfl,.inl ⟨_,_,rfl,rfl⟩,hO,hg⟩
    . exact ⟨_,_,rfl,.inl ⟨_,_,rfl,rfl⟩,hO,hg⟩
 . obtain ⟨k1,k2⟩:=cellsAt_cell (sl_cells (VarE.moves) hx)
   refine (cloneVar_some ⟨b,off,none⟩ l.length c (cellsAt w b off (l.length * 2)) w (cellsAt_len _ _ _ _) hl k1 k2).mono ?_
   rintro e w' ⟨v',rfl,ho,hg⟩
   have hO:=OwnV.of_row ho
   obtain ⟨a',c',rfl,hs⟩:=own_sl (T:=89) (VarE.moves) (by decide) hx (by first | trivial | exact Kept.of_below hg) ho
   exact ⟨a',c',rfl,hs,hO,hg⟩
theorem cloneReg_some (ad:Addr) (n c:Nat) (news:List Value) (w:World) (hl:news.length=n * 2) (hn:n<=100000) (hc:∀ j u,news[j]? = some u->w.cell? (ad.add j)=some u) (h1:∀ u ∈ news,u.oneCell'=true) :
   Calls Tryz.prog 88 #[.slice (some ad) n c] w fun e w'=>∃ v',e=.returned v'/\w'.ownsRow w.heap.size 57 2 v' n news/\Bl w w':=by
 obtain ⟨i0,hi,hz0,hz1,hz2⟩:=info_parts info_Reg
 have A:Aside (∀ j u,news[j]? = some u->w.cell? (ad.add j)=some u):=hc
 clear hc
 have q22:∀ (w:World) (a:Option Addr) (n c n' c':Nat),(binOp .eql 38 (.slice a n c) (.slice none n' c')).run Tryz.prog w=.ok (.bool a.isNone) w:=fun w a n c n' c'=>Lib.run_eql_slice_nil w _ _ a n c n' c' Tryz.underlying38
 go_enter Tryz.func88,Tryz.ntmps88
 go_wp2_with (at_builtin;refine wpList_append_own _ rfl _ _ 38 rfl w.heap.size 57 i0 _ 2 24 Tryz.underlying38 hi hz0 hz1 hz2 rfl (by decide) _ _ _ rfl (World.ownsRow_made w #[] 0 (Nat.le_refl _) (Nat.zero_le _) (by simp)) ad n c news rfl ?qc1 ?qc2 ?qc3 ?qc4 ?qc5 ?qc6 ?_)
 case qc1=>exact hl
 case qc2 =>
  intro j u hj
  exact Lib.cell?_alloc_some _ (A.out j u hj)
 case qc3=>exact h1
 case qc4=>unfold maxLen;omega
 case qc5=>omega
 case qc6=>simp
 intro v' w1 hown hgrow hnil
 go_wp2_with fail
 go_ret
 refine ⟨v',rfl,by simpa using hown,?_⟩
 exact ((Below.refl _ w).alloc (Nat.le_refl _) _).grown hgrow (by simp) (by intro k hk;simp [Value.ownBlock] at hk;omega)
theorem cloneReg_nil (n c:Nat) (w:World):Calls Tryz.prog 88 #[.slice none n c] w fun e w'=>e=.returned (.slice none 0 0)/\w=w':=by
 have q22:∀ (w:World) (a:Option Addr) (n c n' c':Nat),(binOp .eql 38 (.slice a n c) (.slice none n' c')).run Tryz.prog w=.ok (.bool a.isNone) w:=fun w a n c n' c'=>Lib.run_eql_slice_nil w _ _ a n c n' c' Tryz.underlying38
 go_enter Tryz.func88,Tryz.ntmps88
 go_wp2_with fail
 go_ret
 exact ⟨rfl,rfl⟩
theorem cloneReg {Q R:BP} (a:Option Addr) (c:Nat) (l:List RegD) (w:World) (hl:l.length<=100000) (h:Sl Q 2 RegE w (.slice a l.length c) l) :
   Calls Tryz.prog 88 #[.slice a l.length c] w (CloneP 57 2 RegE l w):=by
 rcases h.two with ⟨h0,rfl⟩ | ⟨_,b,off,rfl,hb,hq,hx⟩
 . cases a with
   | none =>
    refine (cloneReg_nil _ c w).mono ?_
    rintro e w' ⟨rfl,rfl⟩
    exact ⟨_,_,rfl,.inl ⟨_,_,rfl,rfl⟩,.inl ⟨_,rfl⟩,Below.refl _ _⟩
   | some ad =>
    refine (cloneReg_some ad 0 c [] w rfl (by omega) (fun j u hj=>by simp at hj) (fun u hu=>by cases hu)).mono ?_
    rintro e w' ⟨v',rfl,ho,hg⟩
    have hO:=OwnV.of_row ho
    obtain ⟨_,⟨rfl,_⟩ | ⟨g,cap,cur,rfl,_⟩⟩:=ho
    . exact ⟨_,_,rfl,.inl ⟨_,_,rfl,rfl⟩,hO,hg⟩
    . exact ⟨_,_,rfl,.inl ⟨_,_,rfl,rfl⟩,hO,hg⟩
 . obtain ⟨k1,k2⟩:=cellsAt_cell (sl_cells (RegE.moves) hx)
   refine (cloneReg_some ⟨b,off,none⟩ l.length c (cellsAt w b off (l.length * 2)) w (cellsAt_len _ _ _ _) hl k1 k2).mono ?_
   rintro e w' ⟨v',rfl,ho,hg⟩
   have hO:=OwnV.of_row ho
   obtain ⟨a',c',rfl,hs⟩:=own_sl (T:=57) (RegE.moves) (by decide) hx (by first | trivial | exact Kept.of_below hg) ho
   exact ⟨a',c',rfl,hs,hO,hg⟩
theorem cloneVer_some (ad:Addr) (n c:Nat) (news:List Value) (w:World) (hl:news.length=n * 8) (hn:n<=100000) (hc:∀ j u,news[j]? = some u->w.cell? (ad.add j)=some u) (h1:∀ u ∈ news,u.oneCell'=true) :
   Calls Tryz.prog 89 #[.slice (some ad) n c] w fun e w'=>∃ v',e=.returned v'/\w'.ownsRow w.heap.size 49 8 v' n news/\Bl w w':=by
 obtain ⟨i0,hi,hz0,hz1,hz2⟩:=info_parts info_Ver
 have A:Aside (∀ j u,news[j]? = some u->w.cell? (ad.add j)=some u):=hc
 clear hc
 have q22:∀ (w:World) (a:Option Addr) (n c n' c':Nat),(binOp .eql 39 (.slice a n c) (.slice none n' c')).run Tryz.prog w=.ok (.bool a.isNone) w:=fun w a n c n' c'=>Lib.run_eql_slice_nil w _ _ a n c n' c' Tryz.underlying39
 go_enter Tryz.func89,Tryz.ntmps89
 go_wp2_with (at_builtin;refine wpList_append_own _ rfl _ _ 39 rfl w.heap.size 49 i0 _ 8 112 Tryz.underlying39 hi hz0 hz1 hz2 rfl (by decide) _ _ _ rfl (World.ownsRow_made w #[] 0 (Nat.le_refl _) (Nat.zero_le _) (by simp)) ad n c news rfl ?qc1 ?qc2 ?qc3 ?qc4 ?qc5 ?qc6 ?_)
 case qc1=>exact hl
 case qc2 =>
  intro j u hj
  exact Lib.cell?_alloc_some _ (A.out j u hj)
 case qc3=>exact h1
 case qc4=>unfold maxLen;omega
 case qc5=>omega
 case qc6=>simp
 intro v' w1 hown hgrow hnil
 go_wp2_with fail
 go_ret
 refine ⟨v',rfl,by simpa using hown,?_⟩
 exact ((Below.refl _ w).alloc (Nat.le_refl _) _).grown hgrow (by simp) (by intro k hk;simp [Value.ownBlock] at hk;omega)
theorem cloneVer_nil (n c:Nat) (w:World):Calls Tryz.prog 89 #[.slice none n c] w fun e w'=>e=.returned (.slice none 0 0)/\w=w':=by
 have q22:∀ (w:World) (a:Option Addr) (n c n' c':Nat),(binOp .eql 39 (.slice a n c) (.slice none n' c')).run Tryz.prog w=.ok (.bool a.isNone) w:=fun w a n c n' c'=>Lib.run_eql_slice_nil w _ _ a n c n' c' Tryz.underlying39
 go_enter Tryz.func89,Tryz.ntmps89
 go_wp2_with fail
 go_ret
 exact ⟨rfl,rfl⟩
theorem cloneVer {Q R:BP} (a:Option Addr) (c:Nat) (l:List VerD) (w:World) (hl:l.length<=100000) (h:Sl Q 8 (VerE R) w (.slice a l.length c) l) :
   Calls Tryz.prog 89 #[.slice a l.length c] w (CloneP 49 8 (VerE R) l w):=by
 rcases h.two with ⟨h0,rfl⟩ | ⟨_,b,off,rfl,hb,hq,hx⟩
 . cases a with
   | none =>
    refine (cloneVer_nil _ c w).mono ?_
    rintro e w' ⟨rfl,rfl⟩
    exact ⟨_,_,rfl,.inl ⟨_,_,rfl,rfl⟩,.inl ⟨_,rfl⟩,Below.refl _ _⟩
   | some ad =>
    refine (cloneVer_some ad 0 c [] w rfl (by omega) (fun j u hj=>by simp at hj) (fun u hu=>by cases hu)).mono ?_
    rintro e w' ⟨v',rfl,ho,hg⟩
    have hO:=OwnV.of_row ho
    obtain ⟨_,⟨rfl,_⟩ | ⟨g,cap,cur,rfl,_⟩⟩:=ho
    . exact ⟨_,_,rfl,.inl ⟨_,_,rfl,rfl⟩,hO,hg⟩
    . exact ⟨_,_,rfl,.inl ⟨_,_,rfl,rfl⟩,hO,hg⟩
 . obtain ⟨k1,k2⟩:=cellsAt_cell (sl_cells (VerE.moves) hx)
   refine (cloneVer_some ⟨b,off,none⟩ l.length c (cellsAt w b off (l.length * 8)) w (cellsAt_len _ _ _ _) hl k1 k2).mono ?_
   rintro e w' ⟨v',rfl,ho,hg⟩
   have hO:=OwnV.of_row ho
   obtain ⟨a',c',rfl,hs⟩:=own_sl (T:=49) (VerE.moves) (by decide) hx (by first | trivial | exact Kept.of_below hg) ho
   exact ⟨a',c',rfl,hs,hO,hg⟩
theorem cloneTrn_some (ad:Addr) (n c:Nat) (news:List Value) (w:World) (hl:news.length=n * 8) (hn:n<=100000) (hc:∀ j u,news[j]? = some u->w.cell? (ad.add j)=some u) (h1:∀ u ∈ news,u.oneCell'=true) :
   Calls Tryz.prog 90 #[.slice (some ad) n c] w fun e w'=>∃ v',e=.returned v'/\w'.ownsRow w.heap.size 59 8 v' n news/\Bl w w':=by
 obtain ⟨i0,hi,hz0,hz1,hz2⟩:=info_parts info_Trn
 have A:Aside (∀ j u,news[j]? = some u->w.cell? (ad.add j)=some u):=hc
 clear hc
 have q22:∀ (w:World) (a:Option Addr) (n c n' c':Nat),(binOp .eql 40 (.slice a n c) (.slice none n' c')).run Tryz.prog w=.ok (.bool a.isNone) w:=fun w a n c n' c'=>Lib.run_eql_slice_nil w _ _ a n c n' c' Tryz.underlying40
 go_enter Tryz.func90,Tryz.ntmps90
 go_wp2_with (at_builtin;refine wpList_append_own _ rfl _ _ 40 rfl w.heap.size 59 i0 _ 8 104 Tryz.underlying40 hi hz0 hz1 hz2 rfl (by decide) _ _ _ rfl (World.ownsRow_made w #[] 0 (Nat.le_refl _) (Nat.zero_le _) (by simp)) ad n c news rfl ?qc1 ?qc2 ?qc3 ?qc4 ?qc5 ?qc6 ?_)
 case qc1=>exact hl
 case qc2 =>
  intro j u hj
  exact Lib.cell?_alloc_some _ (A.out j u hj)
 case qc3=>exact h1
 case qc4=>unfold maxLen;omega
 case qc5=>omega
 case qc6=>simp
 intro v' w1 hown hgrow hnil
 go_wp2_with fail
 go_ret
 refine ⟨v',rfl,by simpa using hown,?_⟩
 exact ((Below.refl _ w).alloc (Nat.le_refl _) _).grown hgrow (by simp) (by intro k hk;simp [Value.ownBlock] at hk;omega)
theorem cloneTrn_nil (n c:Nat) (w:World):Calls Tryz.prog 90 #[.slice none n c] w fun e w'=>e=.returned (.slice none 0 0)/\w=w':=by
 have q22:∀ (w:World) (a:Option Addr) (n c n' c':Nat),(binOp .eql 40 (.slice a n c) (.slice none n' c')).run Tryz.prog w=.ok (.bool a.isNone) w:=fun w a n c n' c'=>Lib.run_eql_slice_nil w _ _ a n c n' c' Tryz.underlying40
 go_enter Tryz.func90,Tryz.ntmps90
 go_wp2_with fail
 go_ret
 exact ⟨rfl,rfl⟩
theorem cloneTrn {Q R:BP} (a:Option Addr) (c:Nat) (l:List TrnD) (w:World) (hl:l.length<=100000) (h:Sl Q 8 (TrnE R) w (.slice a l.length c) l) :
   Calls Tryz.prog 90 #[.slice a l.length c] w (CloneP 59 8 (TrnE R) l w):=by
 rcases h.two with ⟨h0,rfl⟩ | ⟨_,b,off,rfl,hb,hq,hx⟩
 . cases a with
   | none =>
    refine (cloneTrn_nil _ c w).mono ?_
    rintro e w' ⟨rfl,rfl⟩
    exact ⟨_,_,rfl,.inl ⟨_,_,rfl,rfl⟩,.inl ⟨_,rfl⟩,Below.refl _ _⟩
   | some ad =>
    refine (cloneTrn_some ad 0 c [] w rfl (by omega) (fun j u hj=>by simp at hj) (fun u hu=>by cases hu)).mono ?_
    rintro e w' ⟨v',rfl,ho,hg⟩
    have hO:=OwnV.of_row ho
    obtain ⟨_,⟨rfl,_⟩ | ⟨g,cap,cur,rfl,_⟩⟩:=ho
    . exact ⟨_,_,rfl,.inl ⟨_,_,rfl,rfl⟩,hO,hg⟩
    . exact ⟨_,_,rfl,.inl ⟨_,_,rfl,rfl⟩,hO,hg⟩
 . obtain ⟨k1,k2⟩:=cellsAt_cell (sl_cells (TrnE.moves) hx)
   refine (cloneTrn_some ⟨b,off,none⟩ l.length c (cellsAt w b off (l.length * 8)) w (cellsAt_len _ _ _ _) hl k1 k2).mono ?_
   rintro e w' ⟨v',rfl,ho,hg⟩
   have hO:=OwnV.of_row ho
   obtain ⟨a',c',rfl,hs⟩:=own_sl (T:=59) (TrnE.moves) (by decide) hx (by first | trivial | exact Kept.of_below hg) ho
   exact ⟨a',c',rfl,hs,hO,hg⟩
theorem cloneTxt_some (ad:Addr) (n c:Nat) (news:List Value) (w:World) (hl:news.length=n * 1) (hn:n<=100000) (hc:∀ j u,news[j]? = some u->w.cell? (ad.add j)=some u) (h1:∀ u ∈ news,u.oneCell'=true) :
   Calls Tryz.prog 87 #[.slice (some ad) n c] w fun e w'=>∃ v',e=.returned v'/\w'.ownsRow w.heap.size 9 1 v' n news/\Bl w w':=by
 obtain ⟨i0,hi,hz0,hz1,hz2⟩:=info_parts info_Txt
 have A:Aside (∀ j u,news[j]? = some u->w.cell? (ad.add j)=some u):=hc
 clear hc
 have q22:∀ (w:World) (a:Option Addr) (n c n' c':Nat),(binOp .eql 28 (.slice a n c) (.slice none n' c')).run Tryz.prog w=.ok (.bool a.isNone) w:=fun w a n c n' c'=>Lib.run_eql_slice_nil w _ _ a n c n' c' Tryz.underlying28
 go_enter Tryz.func87,Tryz.ntmps87
 go_wp2_with (at_builtin;refine wpList_append_own _ rfl _ _ 28 rfl w.heap.size 9 i0 _ 1 16 Tryz.underlying28 hi hz0 hz1 hz2 rfl (by decide) _ _ _ rfl (World.ownsRow_made w #[] 0 (Nat.le_refl _) (Nat.zero_le _) (by simp)) ad n c news rfl ?qc1 ?qc2 ?qc3 ?qc4 ?qc5 ?qc6 ?_)
 case qc1=>exact hl
 case qc2 =>
  intro j u hj
  exact Lib.cell?_alloc_some _ (A.out j u hj)
 case qc3=>exact h1
 case qc4=>unfold maxLen;omega
 case qc5=>omega
 case qc6=>simp
 intro v' w1 hown hgrow hnil
 go_wp2_with fail
 go_ret
 refine ⟨v',rfl,by simpa using hown,?_⟩
 exact ((Below.refl _ w).alloc (Nat.le_refl _) _).grown hgrow (by simp) (by intro k hk;simp [Value.ownBlock] at hk;omega)
theorem cloneTxt_nil (n c:Nat) (w:World):Calls Tryz.prog 87 #[.slice none n c] w fun e w'=>e=.returned (.slice none 0 0)/\w=w':=by
 have q22:∀ (w:World) (a:Option Addr) (n c n' c':Nat),(binOp .eql 28 (.slice a n c) (.slice none n' c')).run Tryz.prog w=.ok (.bool a.isNone) w:=fun w a n c n' c'=>Lib.run_eql_slice_nil w _ _ a n c n' c' Tryz.underlying28
 go_enter Tryz.func87,Tryz.ntmps87
 go_wp2_with fail
 go_ret
 exact ⟨rfl,rfl⟩
theorem cloneTxt {Q R:BP} (a:Option Addr) (c:Nat) (l:List ByteArray) (w:World) (hl:l.length<=100000) (h:Sl Q 1 TxtE w (.slice a l.length c) l) :
   Calls Tryz.prog 87 #[.slice a l.length c] w (CloneP 9 1 TxtE l w):=by
 rcases h.two with ⟨h0,rfl⟩ | ⟨_,b,off,rfl,hb,hq,hx⟩
 . cases a with
   | none =>
    refine (cloneTxt_nil _ c w).mono ?_
    rintro e w' ⟨rfl,rfl⟩
    exact ⟨_,_,rfl,.inl ⟨_,_,rfl,rfl⟩,.inl ⟨_,rfl⟩,Below.refl _ _⟩
   | some ad =>
    refine (cloneTxt_some ad 0 c [] w rfl (by omega) (fun j u hj=>by simp at hj) (fun u hu=>by cases hu)).mono ?_
    rintro e w' ⟨v',rfl,ho,hg⟩
    have hO:=OwnV.of_row ho
    obtain ⟨_,⟨rfl,_⟩ | ⟨g,cap,cur,rfl,_⟩⟩:=ho
    . exact ⟨_,_,rfl,.inl ⟨_,_,rfl,rfl⟩,hO,hg⟩
    . exact ⟨_,_,rfl,.inl ⟨_,_,rfl,rfl⟩,hO,hg⟩
 . obtain ⟨k1,k2⟩:=cellsAt_cell (sl_cells (TxtE.moves) hx)
   refine (cloneTxt_some ⟨b,off,none⟩ l.length c (cellsAt w b off (l.length * 1)) w (cellsAt_len _ _ _ _) hl k1 k2).mono ?_
   rintro e w' ⟨v',rfl,ho,hg⟩
   have hO:=OwnV.of_row ho
   obtain ⟨a',c',rfl,hs⟩:=own_sl (T:=9) (TxtE.moves) (by decide) hx (by first | trivial | exact Kept.of_below hg) ho
   exact ⟨a',c',rfl,hs,hO,hg⟩
end Go.Proofs

namespace Go.Proofs
open Go.RowKit Go.Lx Go.Md
theorem le2 (n:Nat):n<=n+2:=by omega
theorem lt2 (n:Nat):n<n+2:=by omega
theorem alloc2_at (w:World) (a b:Obj):((w.alloc a).alloc b).heap[w.heap.size+1]? = some b:=by
 unfold World.alloc
 simp only
 rw [show w.heap.size+1=(w.heap.push a).size by simp,Array.getElem?_push_size]
structure Sml (m:MdlD):Prop where
 vars:m.vars.length<=100000
 evs:m.evs.length<=100000
 regs:m.regs.length<=100000
 vers:m.vers.length<=100000
 trns:m.trns.length<=100000
 df:∀ x ∈ m.vers,x.df.length<=100000
 tr:∀ x ∈ m.trns,x.tr.length<=100000
theorem Kept.refl (Q:BP) (w:World):Kept Q w w:=⟨Nat.le_refl _,fun _ _ _=>rfl⟩
theorem Kept.trans {Q:BP} {a b c:World} (h:Kept Q a b) (k:Kept Q b c):Kept Q a c :=
 ⟨Nat.le_trans h.1 k.1,fun x hx hQ=>by
   have e:=h.2 x hx hQ
   rw [k.2 x (Nat.lt_of_lt_of_le hx h.1) (by rw [e];exact hQ),e]⟩
structure Box (wx:World) (H:Nat) (v0 v1 v2 v3 v4 v5:Value):Prop where
 c0:wx.cell? ⟨H,0,none⟩=some v0
 c1:wx.cell? ⟨H,1,none⟩=some v1
 c2:wx.cell? ⟨H,2,none⟩=some v2
 c3:wx.cell? ⟨H,3,none⟩=some v3
 c4:wx.cell? ⟨H,4,none⟩=some v4
 c5:wx.cell? ⟨H,5,none⟩=some v5
 f0:wx.frozen? ⟨H,0,none⟩=false
 f1:wx.frozen? ⟨H,1,none⟩=false
 f2:wx.frozen? ⟨H,2,none⟩=false
 f3:wx.frozen? ⟨H,3,none⟩=false
 f4:wx.frozen? ⟨H,4,none⟩=false
 f5:wx.frozen? ⟨H,5,none⟩=false
theorem Box.below {B:Nat} {w wx:World} {H:Nat} {v0 v1 v2 v3 v4 v5:Value} (h:Box w H v0 v1 v2 v3 v4 v5) (hb:Below B w wx) (hB:H<B):Box wx H v0 v1 v2 v3 v4 v5 :=
 ⟨(hb.cell (p:=⟨H,0,none⟩) hB).trans h.c0,(hb.cell (p:=⟨H,1,none⟩) hB).trans h.c1,(hb.cell (p:=⟨H,2,none⟩) hB).trans h.c2,(hb.cell (p:=⟨H,3,none⟩) hB).trans h.c3,(hb.cell (p:=⟨H,4,none⟩) hB).trans h.c4,(hb.cell (p:=⟨H,5,none⟩) hB).trans h.c5,
  (hb.frozen (p:=⟨H,0,none⟩) hB).trans h.f0,(hb.frozen (p:=⟨H,1,none⟩) hB).trans h.f1,(hb.frozen (p:=⟨H,2,none⟩) hB).trans h.f2,(hb.frozen (p:=⟨H,3,none⟩) hB).trans h.f3,(hb.frozen (p:=⟨H,4,none⟩) hB).trans h.f4,(hb.frozen (p:=⟨H,5,none⟩) hB).trans h.f5⟩
theorem Box.far {w:World} {H:Nat} {v0 v1 v2 v3 v4 v5:Value} (h:Box w H v0 v1 v2 v3 v4 v5) {a:Addr} (u:Value) (ha:a.block≠H):Box (w.setCell a u) H v0 v1 v2 v3 v4 v5:=by
 have hc:∀ k x,w.cell? ⟨H,k,none⟩=some x->(w.setCell a u).cell? ⟨H,k,none⟩=some x:=fun k x hx=>by
   rw [World.cell?_setCell_other w a _ u (by intro e;exact ha (by rw [e]))];exact hx
 exact ⟨hc _ _ h.c0,hc _ _ h.c1,hc _ _ h.c2,hc _ _ h.c3,hc _ _ h.c4,hc _ _ h.c5,by simpa using h.f0,by simpa using h.f1,by simpa using h.f2,by simpa using h.f3,by simpa using h.f4,by simpa using h.f5⟩
theorem cell_set_ne {w:World} {H k j:Nat} {u x:Value} (h:w.cell? ⟨H,k,none⟩=some x) (hj:j≠k):(w.setCell ⟨H,j,none⟩ u).cell? ⟨H,k,none⟩=some x:=by
 rw [World.cell?_setCell_other w _ _ u (by intro e;injection e with _ e2;exact hj e2)];exact h
theorem Box.set1 {w:World} {H:Nat} {v0 v1 v2 v3 v4 v5:Value} (h:Box w H v0 v1 v2 v3 v4 v5) (u:Value):Box (w.setCell ⟨H,1,none⟩ u) H v0 u v2 v3 v4 v5 :=
 ⟨cell_set_ne h.c0 (by decide),World.cell?_setCell_same _ _ _ h.c1,cell_set_ne h.c2 (by decide),cell_set_ne h.c3 (by decide),cell_set_ne h.c4 (by decide),cell_set_ne h.c5 (by decide),by simpa using h.f0,by simpa using h.f1,by simpa using h.f2,by simpa using h.f3,by simpa using h.f4,by simpa using h.f5⟩
theorem Box.set2 {w:World} {H:Nat} {v0 v1 v2 v3 v4 v5:Value} (h:Box w H v0 v1 v2 v3 v4 v5) (u:Value):Box (w.setCell ⟨H,2,none⟩ u) H v0 v1 u v3 v4 v5 :=
 ⟨cell_set_ne h.c0 (by decide),cell_set_ne h.c1 (by decide),World.cell?_setCell_same _ _ _ h.c2,cell_set_ne h.c3 (by decide),cell_set_ne h.c4 (by decide),cell_set_ne h.c5 (by decide),by simpa using h.f0,by simpa using h.f1,by simpa using h.f2,by simpa using h.f3,by simpa using h.f4,by simpa using h.f5⟩
theorem Box.set3 {w:World} {H:Nat} {v0 v1 v2 v3 v4 v5:Value} (h:Box w H v0 v1 v2 v3 v4 v5) (u:Value):Box (w.setCell ⟨H,3,none⟩ u) H v0 v1 v2 u v4 v5 :=
 ⟨cell_set_ne h.c0 (by decide),cell_set_ne h.c1 (by decide),cell_set_ne h.c2 (by decide),World.cell?_setCell_same _ _ _ h.c3,cell_set_ne h.c4 (by decide),cell_set_ne h.c5 (by decide),by simpa using h.f0,by simpa using h.f1,by simpa using h.f2,by simpa using h.f3,by simpa using h.f4,by simpa using h.f5⟩
theorem Box.set4 {w:World} {H:Nat} {v0 v1 v2 v3 v4 v5:Value} (h:Box w H v0 v1 v2 v3 v4 v5) (u:Value):Box (w.setCell ⟨H,4,none⟩ u) H v0 v1 v2 v3 u v5 :=
 ⟨cell_set_ne h.c0 (by decide),cell_set_ne h.c1 (by decide),cell_set_ne h.c2 (by decide),cell_set_ne h.c3 (by decide),World.cell?_setCell_same _ _ _ h.c4,cell_set_ne h.c5 (by decide),by simpa using h.f0,by simpa using h.f1,by simpa using h.f2,by simpa using h.f3,by simpa using h.f4,by simpa using h.f5⟩
theorem Box.set5 {w:World} {H:Nat} {v0 v1 v2 v3 v4 v5:Value} (h:Box w H v0 v1 v2 v3 v4 v5) (u:Value):Box (w.setCell ⟨H,5,none⟩ u) H v0 v1 v2 v3 v4 u :=
 ⟨cell_set_ne h.c0 (by decide),cell_set_ne h.c1 (by decide),cell_set_ne h.c2 (by decide),cell_set_ne h.c3 (by decide),cell_set_ne h.c4 (by decide),World.cell?_setCell_same _ _ _ h.c5,by simpa using h.f0,by simpa using h.f1,by simpa using h.f2,by simpa using h.f3,by simpa using h.f4,by simpa using h.f5⟩
def OldB (H:Nat):BP:=fun b _=>b<H
theorem NewB.kept_set {lo hi:Nat} {w:World} {H:Nat} {k:Nat} {u:Value} (h:H<lo):Kept (NewB lo hi) w (w.setCell ⟨H,k,none⟩ u):=by
 refine ⟨by simp,fun b _ hQ=>Below.heap_setCell w ⟨H,k,none⟩ u b ?_⟩
 intro e
 have h1:lo<=b:=hQ.1
 have h2:b=H:=e
 omega
theorem NewB.wide {lo hi lo' hi':Nat} {b:Nat} {o:Option Obj} (h:NewB lo hi b o) (h1:lo'<=lo) (h2:hi<=hi'):NewB lo' hi' b o:=⟨Nat.le_trans h1 h.1,Nat.lt_of_lt_of_le h.2.1 h2,h.2.2⟩
theorem NewB.free {lo hi:Nat} {w:World} {b k:Nat} (h:NewB lo hi b w.heap[b]?):w.frozen? ⟨b,k,none⟩=false:=by
 obtain ⟨_,_,cur,T,h⟩:=h
 unfold World.frozen?
 simp [h]
theorem NewB.set {lo hi:Nat} {w:World} {b:Nat} (h:NewB lo hi b w.heap[b]?) (a:Addr) (u:Value):NewB lo hi b (w.setCell a u).heap[b]? := by
 obtain ⟨h1,h2,cur,T,h⟩:=h
 refine ⟨h1,h2,?_⟩
 by_cases hab:b=a.block
 . subst hab
   unfold World.setCell
   simp only [Array.getElem?_modify,if_true,h,Option.map_some]
   cases a.spot with
   | none=>exact ⟨_,_,rfl⟩
   | some s=>exact ⟨_,_,rfl⟩
 . rw [Below.heap_setCell w a u b hab];exact ⟨cur,T,h⟩
theorem NewS.wide {lo hi lo' hi':Nat} {b:Nat} {o:Option Obj} (h:NewS lo hi b o) (h1:lo'<=lo) (h2:hi<=hi'):NewS lo' hi' b o:=⟨Nat.le_trans h1 h.1,Nat.lt_of_lt_of_le h.2.1 h2,h.2.2⟩
theorem Kept.newS {lo hi:Nat} {w w':World} (h:Kept (NewB lo hi) w w'):Kept (NewS lo hi) w w':=⟨h.1,fun b hb hq=>h.2 b hb hq.newB⟩
theorem SlS.texts {lo hi:Nat} {w:World} {a:Option Addr} {n c:Nat} {l:List ByteArray} (h:SlS (NewB lo hi) w (.slice a n c) l) (ho:OwnV lo 9 1 w (.slice a n c)):SlS (NewS lo hi) w (.slice a n c) l:=by
 rcases h with h | ⟨b,off,cap,hv,h0,h1,h2,h3⟩
 . exact .inl h
 . rcases ho with ⟨a',e⟩ | ⟨g,n',cc,cur,e,_,hg,_⟩
   . rw [e] at hv
     simp only [Value.slice.injEq] at hv
     exact .inl ⟨_,_,e,List.eq_nil_of_length_eq_zero hv.2.1.symm⟩
   . refine .inr ⟨b,off,cap,hv,h0,h1,⟨h2.1,h2.2.1,cur,?_⟩,h3⟩
     rw [e] at hv
     simp only [Value.slice.injEq,Option.some.injEq,Addr.mk.injEq] at hv
     rw [<- hv.1.1];exact hg
structure Inn {α:Type} (d:Nat) (tx:α->List ByteArray) (E:BP->World->Nat->Nat->α->Prop):Prop where
 lt:d<8
 get:∀ (R:BP) (w:World) (b o:Nat) (x:α),E R w b o x->∃ dv,SlS R w dv (tx x)/\w.cell? ⟨b,o+d,none⟩=some dv
 put:∀ (R R':BP) (w w':World) (b o b' o':Nat) (x:α) (dv:Value),E R w b o x->(∀ j,j<8->j≠d->w'.cell? ⟨b',o'+j,none⟩=w.cell? ⟨b,o+j,none⟩)->w'.cell? ⟨b',o'+d,none⟩=some dv->SlS R' w' dv (tx x)->E R' w' b' o' x
theorem VerE.inn:Inn 6 (fun x:VerD=>x.df) VerE where
 lt:=by decide
 get:=fun R w b o x h=>by
   obtain ⟨dv,hd,h0,h1,h2,h3,h4,h5,h6,h7⟩:=h
   exact ⟨dv,hd,h6⟩
 put:=fun R R' w w' b o b' o' x dv h hc hd hs=>by
   obtain ⟨dv0,hd0,h0,h1,h2,h3,h4,h5,h6,h7⟩:=h
   exact ⟨dv,hs,(hc 0 (by decide) (by decide)).trans h0,(hc 1 (by decide) (by decide)).trans h1,(hc 2 (by decide) (by decide)).trans h2,(hc 3 (by decide) (by decide)).trans h3,(hc 4 (by decide) (by decide)).trans h4,(hc 5 (by decide) (by decide)).trans h5,hd,(hc 7 (by decide) (by decide)).trans h7⟩
theorem TrnE.inn:Inn 3 (fun x:TrnD=>x.tr) TrnE where
 lt:=by decide
 get:=fun R w b o x h=>by
   obtain ⟨dv,hd,h0,h1,h2,h3,h4,h5,h6,h7⟩:=h
   exact ⟨dv,hd,h3⟩
 put:=fun R R' w w' b o b' o' x dv h hc hd hs=>by
   obtain ⟨dv0,hd0,h0,h1,h2,h3,h4,h5,h6,h7⟩:=h
   exact ⟨dv,hs,(hc 0 (by decide) (by decide)).trans h0,(hc 1 (by decide) (by decide)).trans h1,(hc 2 (by decide) (by decide)).trans h2,hd,(hc 4 (by decide) (by decide)).trans h4,(hc 5 (by decide) (by decide)).trans h5,(hc 6 (by decide) (by decide)).trans h6,(hc 7 (by decide) (by decide)).trans h7⟩
theorem Inn.keep {α:Type} {d:Nat} {tx:α->List ByteArray} {E:BP->World->Nat->Nat->α->Prop} (hE:Inn d tx E) {R R':BP} {w w':World} {b o:Nat} {x:α} (h:E R w b o x) (hc:∀ j,j<8->w'.cell? ⟨b,o+j,none⟩=w.cell? ⟨b,o+j,none⟩) (hk:Kept R w w')
   (hr:∀ b,b<w'.heap.size->R b w'.heap[b]? -> R' b w'.heap[b]?):E R' w' b o x:=by
 obtain ⟨dv,hs,hd⟩:=hE.get _ _ _ _ _ h
 exact hE.put _ _ _ _ _ _ _ _ _ dv h (fun j hj _=>hc j hj) ((hc d hE.lt).trans hd) ((hs.kept hk).weaken hr)
structure Half {α:Type} (E:BP->World->Nat->Nat->α->Prop) (H q b off k:Nat) (l:List α) (w:World):Prop where
 done:∀ i (h:i<l.length),i<k->E (NewS q w.heap.size) w b (off+i * 8) l[i]
 wait:∀ i (h:i<l.length),k<=i->E (OldB H) w b (off+i * 8) l[i]
theorem Half.step {α:Type} {d:Nat} {tx:α->List ByteArray} {E:BP->World->Nat->Nat->α->Prop} (hE:Inn d tx E) {H q b off k:Nat} {l:List α} {w w1:World} {dv:Value} (h:Half E H q b off k l w) (hk:k<l.length) (hHb:H<=b) (hbq:b<q) (hqw:q<=w.heap.size)
   (g:Bl w w1) (hs:SlS (NewS w.heap.size w1.heap.size) w1 dv (tx l[k])):Half E H q b off (k+1) l (w1.setCell ⟨b,off+k * 8+d,none⟩ dv):=by
 have hbw:b<w.heap.size:=by omega
 have hd:=hE.lt
 have hcell:∀ o,o≠off+k * 8+d->(w1.setCell ⟨b,off+k * 8+d,none⟩ dv).cell? ⟨b,o,none⟩=w.cell? ⟨b,o,none⟩:=fun o ho=>by
   rw [World.cell?_setCell_other w1 _ _ dv (by intro e;injection e with _ e2;exact ho e2.symm)]
   exact g.cell (p:=⟨b,o,none⟩) hbw
 have hkept:∀ Q:BP,(∀ o,¬ Q b o)->Kept Q w (w1.setCell ⟨b,off+k * 8+d,none⟩ dv):=fun Q hQ=>(Kept.of_below g).trans (Kept.setCell hQ)
 have hne:∀ i j,i≠k->j<8->off+i * 8+j≠off+k * 8+d:=fun i j hi hj=>by omega
 constructor
 . intro i hi hik
   by_cases hik':i=k
   . subst hik'
     have h0:=h.wait i hi (Nat.le_refl _)
     obtain ⟨dv0,hs0,hd0⟩:=hE.get _ _ _ _ _ h0
     refine hE.put _ _ _ _ _ _ _ _ _ dv h0 (fun j hj hjd=>hcell _ (by omega)) (World.cell?_setCell_same _ _ _ ((g.cell (p:=⟨b,off+i * 8+d,none⟩) hbw).trans hd0)) ?_
     refine (hs.kept (Kept.setCell fun o hQ=>?_)).weaken fun b' _ hb'=>?_
     . have h1:=hQ.1;simp only at h1;omega
     . exact hb'.wide hqw (by simp)
   . refine hE.keep (h.done i hi (by omega)) (fun j hj=>hcell _ (hne i j hik' hj)) (hkept _ fun o hQ=>?_) fun b' _ hb'=>hb'.wide (Nat.le_refl _) (by have:=g.size;simpa using this)
     have h1:=hQ.1;omega
 . intro i hi hik
   refine hE.keep (h.wait i hi (by omega)) (fun j hj=>hcell _ (hne i j (by omega) hj)) (hkept _ fun o hQ=>?_) fun b' _ hb'=>hb'
   have:b<H:=hQ
   omega
def zeroM:Obj:=.cells #[.string ⟨#[]⟩,.slice none 0 0,.slice none 0 0,.slice none 0 0,.slice none 0 0,.slice none 0 0] 42 (0,0)
structure CSt (m:MdlD) (w:World) (q:Nat->Nat) (r:Ph) (V T:World->Prop) (wx:World):Prop where
 box:Box wx w.heap.size (.string m.nm) (.slice r.a1 m.vars.length r.c1) (.slice r.a2 m.evs.length r.c2) (.slice r.a3 m.regs.length r.c3) (.slice r.a4 m.vers.length r.c4) (.slice r.a5 m.trns.length r.c5)
 res:wx.heap[w.heap.size+1]? = some zeroM
 bel:Bl w wx
 q0:w.heap.size+2<=q 0
 qm:∀ j,q j<=q (j+1)
 qz:q 5<=wx.heap.size
 vars:Sl (NewB (q 0) (q 1)) 2 VarE wx (.slice r.a1 m.vars.length r.c1) m.vars
 evs:Sl (NewB (q 1) (q 2)) 1 TxtE wx (.slice r.a2 m.evs.length r.c2) m.evs
 regs:Sl (NewB (q 2) (q 3)) 2 RegE wx (.slice r.a3 m.regs.length r.c3) m.regs
 vers:V wx
 trns:T wx
theorem TxtE.mono {Q R:BP}:Mono Q R TxtE:=fun _ _ _ _ _ h hb hq hw _=>(hw.cell hb hq).trans h
theorem CSt.q3 {m:MdlD} {w:World} {q:Nat->Nat} {r:Ph} {V T:World->Prop} {wx:World} (h:CSt m w q r V T wx):w.heap.size+2<=q 3:=by
 have:=h.q0
 have:q 0<=q 1:=h.qm 0
 have:q 1<=q 2:=h.qm 1
 have:q 2<=q 3:=h.qm 2
 omega
theorem CSt.step {m:MdlD} {w:World} {q:Nat->Nat} {r:Ph} {V T V' T':World->Prop} {wx w1:World} (h:CSt m w q r V T wx) (g:Bl wx w1) {b o:Nat} (hb:q 3<=b) (u:Value) (hv:V' (w1.setCell ⟨b,o,none⟩ u)) (ht:T' (w1.setCell ⟨b,o,none⟩ u)) :
   CSt m w q r V' T' (w1.setCell ⟨b,o,none⟩ u):=by
 have h3:=h.q3
 have hz:=h.qz
 have h01:q 0<=q 1:=h.qm 0
 have h12:q 1<=q 2:=h.qm 1
 have h23:q 2<=q 3:=h.qm 2
 have h34:q 3<=q 4:=h.qm 3
 have h45:q 4<=q 5:=h.qm 4
 have hk:∀ lo hi,hi<=q 3->Kept (NewB lo hi) wx (w1.setCell ⟨b,o,none⟩ u):=fun lo hi hh=>(Kept.of_below g).trans (Kept.setCell fun _ hQ=>by have:=hQ.2.1;simp only at this;omega)
 refine ⟨(h.box.below g (by omega)).far u (by simp only;omega),?_,?_,h.q0,h.qm,by have:=g.size;simp only [World.size_setCell];omega,h.vars.kept (VarE.mono (R:=NewB (q 0) (q 1))) (hk _ _ (by omega)) (hk _ _ (by omega)),h.evs.kept (TxtE.mono (R:=NewB (q 1) (q 2))) (hk _ _ (by omega)) (hk _ _ (by omega)),h.regs.kept (RegE.mono (R:=NewB (q 2) (q 3))) (hk _ _ (by omega)) (hk _ _ (by omega)),hv,ht⟩
 . rw [Below.heap_setCell _ _ _ _ (by simp only;omega),g.block _ (by omega)];exact h.res
 . exact (h.bel.trans (g.mono (by omega))).setCell (by simp only;omega) _
def Part {α:Type} (E:BP->World->Nat->Nat->α->Prop) (H q3 q4 q5 k:Nat) (a:Option Addr) (c:Nat) (l:List α) (w:World):Prop :=
 l=[]\/∃ b off,a=some ⟨b,off,none⟩/\l.length<=c/\NewB q3 q4 b w.heap[b]? /\ Half E H q5 b off k l w
theorem Part.start {α:Type} {E:BP->World->Nat->Nat->α->Prop} {H q3 q4 q5:Nat} {a:Option Addr} {c:Nat} {l:List α} {w:World} (h:Sl (NewB q3 q4) 8 (E (OldB H)) w (.slice a l.length c) l):Part E H q3 q4 q5 0 a c l w:=by
 rcases h.two with ⟨_,h⟩ | ⟨_,b,off,ha,hb,hq,hx⟩
 . exact .inl h
 . exact .inr ⟨b,off,ha,by
     rcases Nat.eq_zero_or_pos l.length with h0 | h0
     . omega
     . exact h.cap h0,hq,fun i _ hi=>by omega,fun i hi _=>hx i hi⟩
theorem Part.done {α:Type} {E:BP->World->Nat->Nat->α->Prop} {H q3 q4 q5:Nat} {a:Option Addr} {c:Nat} {l:List α} {w:World} (h:Part E H q3 q4 q5 l.length a c l w) (hz:q4<=w.heap.size):Sl (NewB q3 q4) 8 (E (NewS q5 w.heap.size)) w (.slice a l.length c) l:=by
 rcases h with h | ⟨b,off,rfl,hcap,hq,hh⟩
 . exact .inl ⟨a,c,by rw [h];rfl,h⟩
 . exact .inr ⟨b,off,c,rfl,hcap,Nat.lt_of_lt_of_le hq.2.1 hz,hq,fun i hi=>hh.done i hi hi⟩
def qs (a0 a1 a2 a3 a4 a5 a6 a7:Nat):Nat->Nat
 | 0=>a0 | 1=>a1 | 2=>a2 | 3=>a3 | 4=>a4 | 5=>a5 | 6=>a6 | _=>a7
def CopyP (m:MdlD) (w:World) (e:Ending) (w':World):Prop :=
 ∃ p q,e=.returned (mdV m p)/\Mod (Lay q) w' m p/\w.heap.size<=q 0/\(∀ j,q j<=q (j+1))/\q 7<=w'.heap.size/\Bl w w'
abbrev TT:Nat->TypeId
 | 0=>89 | 1=>9 | 2=>57 | 3=>49 | 4=>59 | _=>9
def TB (lo:Nat) (T:TypeId):BP:=fun b o=>lo<=b/\∃ cur,o=some (.cells cur T (0,0))
structure Own5 (lo:Nat) (m:MdlD) (r:Ph) (w:World):Prop where
 o1:OwnV lo 89 2 w (.slice r.a1 m.vars.length r.c1)
 o2:OwnV lo 9 1 w (.slice r.a2 m.evs.length r.c2)
 o3:OwnV lo 57 2 w (.slice r.a3 m.regs.length r.c3)
 o4:OwnV lo 49 8 w (.slice r.a4 m.vers.length r.c4)
 o5:OwnV lo 59 8 w (.slice r.a5 m.trns.length r.c5)
theorem Own5.below {lo:Nat} {m:MdlD} {r:Ph} {w w':World} (h:Own5 lo m r w) (g:Bl w w'):Own5 lo m r w':=⟨h.o1.below g,h.o2.below g,h.o3.below g,h.o4.below g,h.o5.below g⟩
theorem Own5.set {lo:Nat} {m:MdlD} {r:Ph} {w:World} (h:Own5 lo m r w) (a:Addr) (u:Value):Own5 lo m r (w.setCell a u):=⟨h.o1.set a u,h.o2.set a u,h.o3.set a u,h.o4.set a u,h.o5.set a u⟩
theorem OwnV.lt {lo:Nat} {T:TypeId} {sz:Nat} {w:World} {v:Value} (h:OwnV lo T sz w v) {a:Addr} {n c:Nat} (e:v=.slice (some a) n c) (hn:0<n):TB lo T a.block w.heap[a.block]? := by
 rcases h with ⟨a',e'⟩ | ⟨g,n',cc,cur,e',h1,h2,_⟩
 . rw [e] at e';simp only [Value.slice.injEq] at e';omega
 . rw [e] at e'
   simp only [Value.slice.injEq,Option.some.injEq] at e'
   obtain ⟨rfl,_,_⟩:=e'
   exact ⟨h1,cur,h2⟩
theorem Sl.typed {α:Type} {Q:BP} {lo:Nat} {T:TypeId} {sz:Nat} {E:World->Nat->Nat->α->Prop} {w:World} {v:Value} {l:List α} (h:Sl Q sz E w v l) (ho:OwnV lo T sz w v):Sl (TB lo T) sz E w v l:=by
 rcases h with h | ⟨b,off,cap,rfl,h0,h1,h2,h3⟩
 . exact .inl h
 . rcases Nat.eq_zero_or_pos l.length with hl | hl
   . exact .inl ⟨_,_,by rw [hl],List.eq_nil_of_length_eq_zero hl⟩
   . exact .inr ⟨b,off,cap,rfl,h0,h1,ho.lt rfl hl,h3⟩
structure OwnM (lo:Nat) (w:World) (m:MdlD) (p:Ph):Prop where
 mod:Mod (fun j=>TB lo (TT j)) w m p
 own:Own5 lo m p w
def CopyX (m:MdlD) (w:World) (e:Ending) (w':World):Prop:=CopyP m w e w'/\∃ p,e=.returned (mdV m p)/\OwnM w.heap.size w' m p
structure Own3 (lo:Nat) (m:MdlD) (a1:Option Addr) (c1:Nat) (a2:Option Addr) (c2:Nat) (a3:Option Addr) (c3:Nat) (w:World):Prop where
 o1:OwnV lo 89 2 w (.slice a1 m.vars.length c1)
 o2:OwnV lo 9 1 w (.slice a2 m.evs.length c2)
 o3:OwnV lo 57 2 w (.slice a3 m.regs.length c3)
def CutA (m:MdlD) (p:Ph) (w wx:World):Prop:=∃ a1 c1 a2 c2 a3 c3 q,CSt m w q ⟨a1,c1,a2,c2,a3,c3,p.a4,p.c4,p.a5,p.c5⟩ (fun _=>True) (fun _=>True) wx/\Own3 w.heap.size m a1 c1 a2 c2 a3 c3 wx
def VerS (w:World) (q:Nat->Nat) (r:Ph) (m:MdlD) (wx:World):Prop:=Sl (NewB (q 3) (q 4)) 8 (VerE (OldB w.heap.size)) wx (.slice r.a4 m.vers.length r.c4) m.vers
def TrnS (w:World) (q:Nat->Nat) (r:Ph) (m:MdlD) (wx:World):Prop:=Sl (NewB (q 4) (q 5)) 8 (TrnE (OldB w.heap.size)) wx (.slice r.a5 m.trns.length r.c5) m.trns
theorem CSt.vers0 {m:MdlD} {w:World} {q:Nat->Nat} {r:Ph} {wx:World} (hc:CSt m w q r (VerS w q r m) (TrnS w q r m) wx):CSt m w q r (fun wx=>Part VerE w.heap.size (q 3) (q 4) (q 5) 0 r.a4 r.c4 m.vers wx) (TrnS w q r m) wx :=
 ⟨hc.box,hc.res,hc.bel,hc.q0,hc.qm,hc.qz,hc.vars,hc.evs,hc.regs,Part.start (c:=r.c4) hc.vers,hc.trns⟩
def CutB (m:MdlD) (w wx:World):Prop:=∃ r q,CSt m w q r (VerS w q r m) (TrnS w q r m) wx/\Own5 w.heap.size m r wx
theorem Box.sl {w:World} {H:Nat} {v0 v1 v2 v3 v4 v5:Value} (h:Box w H v0 v1 v2 v3 v4 v5):H<w.heap.size:=World.block_lt_of_cell? w _ h.c0
theorem cutA_of {m:MdlD} {p:Ph} {w W0 w1 w2 w3:World} {a1 a2 a3:Option Addr} {c1 c2 c3:Nat} (R0:W0.heap[w.heap.size+1]? = some zeroM) (G0:Bl w W0) (S0:w.heap.size+2<=W0.heap.size)
   (B0:Box W0 w.heap.size (.string m.nm) (.slice p.a1 m.vars.length p.c1) (.slice p.a2 m.evs.length p.c2) (.slice p.a3 m.regs.length p.c3) (.slice p.a4 m.vers.length p.c4) (.slice p.a5 m.trns.length p.c5))
   (hs1:Sl (NewB W0.drew.heap.size w1.heap.size) 2 VarE w1 (.slice a1 m.vars.length c1) m.vars) (o1:OwnV W0.drew.heap.size 89 2 w1 (.slice a1 m.vars.length c1)) (g1:Below W0.drew.heap.size W0.drew w1)
   (hs2:Sl (NewB w1.heap.size w2.heap.size) 1 TxtE w2 (.slice a2 m.evs.length c2) m.evs) (o2:OwnV w1.heap.size 9 1 w2 (.slice a2 m.evs.length c2)) (g2:Bl w1 w2)
   (hs3:Sl (NewB w2.heap.size w3.heap.size) 2 RegE w3 (.slice a3 m.regs.length c3) m.regs) (o3:OwnV w2.heap.size 57 2 w3 (.slice a3 m.regs.length c3)) (g3:Bl w2 w3) :
   CutA m p w (((w3.setCell ⟨w.heap.size,1,none⟩ (.slice a1 m.vars.length c1)).setCell ⟨w.heap.size,2,none⟩ (.slice a2 m.evs.length c2)).setCell ⟨w.heap.size,3,none⟩ (.slice a3 m.regs.length c3)):=by
 have k1:W0.heap.size<=w1.heap.size:=g1.size
 have k2:=g2.size
 have k3:=g3.size
 have hk:∀ lo hi,w.heap.size<lo->Kept (NewB lo hi) w3 (((w3.setCell ⟨w.heap.size,1,none⟩ (.slice a1 m.vars.length c1)).setCell ⟨w.heap.size,2,none⟩ (.slice a2 m.evs.length c2)).setCell ⟨w.heap.size,3,none⟩ (.slice a3 m.regs.length c3)):=fun lo hi hl =>
   ((NewB.kept_set hl).trans (NewB.kept_set hl)).trans (NewB.kept_set hl)
 have G1:Below (w.heap.size+2) W0 w1:=(Below.refl _ W0).drew.trans (g1.mono S0)
 have G2:=G1.trans (g2.mono (by omega))
 have G3:=G2.trans (g3.mono (by omega))
 refine ⟨a1,c1,a2,c2,a3,c3,qs W0.heap.size w1.heap.size w2.heap.size w3.heap.size w3.heap.size w3.heap.size w3.heap.size w3.heap.size,?_,((((((o1.mono (lo':=w.heap.size) (by show _<=W0.heap.size;omega)).below g2).below g3).set _ _).set _ _).set _ _),((((o2.mono (lo':=w.heap.size) (by omega)).below g3).set _ _).set _ _).set _ _,(((o3.mono (lo':=w.heap.size) (by omega)).set _ _).set _ _).set _ _⟩
 refine ⟨(((B0.below G3 (by omega)).set1 _).set2 _).set3 _,?_,?_,S0,?_,?_,?_,?_,?_,trivial,trivial⟩
 . rw [Below.heap_setCell _ _ _ _ (by simp only;omega),Below.heap_setCell _ _ _ _ (by simp only;omega),Below.heap_setCell _ _ _ _ (by simp only;omega),G3.block _ (by omega)];exact R0
 . exact (((G0.trans (G3.mono (by omega))).setCell (Nat.le_refl _) _).setCell (Nat.le_refl _) _).setCell (Nat.le_refl _) _
 . intro j
   match j with
   | 0=>exact k1
   | 1=>exact k2
   | 2=>exact k3
   | 3=>exact Nat.le_refl _
   | 4=>exact Nat.le_refl _
   | 5=>exact Nat.le_refl _
   | 6=>exact Nat.le_refl _
   | n+7=>exact Nat.le_refl _
 . show w3.heap.size<=_
   simp
 . have e:Kept (NewB W0.heap.size w1.heap.size) w1 _:=((Kept.of_below g2).trans (Kept.of_below g3)).trans (hk _ _ (by omega))
   exact Sl.kept (VarE.mono (R:=NewB W0.heap.size w1.heap.size)) hs1 e e
 . have e:Kept (NewB w1.heap.size w2.heap.size) w2 _:=(Kept.of_below g3).trans (hk _ _ (by omega))
   exact Sl.kept (TxtE.mono (R:=NewB w1.heap.size w2.heap.size)) hs2 e e
 . have e:Kept (NewB w2.heap.size w3.heap.size) w3 _:=hk _ _ (by omega)
   exact Sl.kept (RegE.mono (R:=NewB w2.heap.size w3.heap.size)) hs3 e e
theorem OldB.kept_set {w:World} {H k:Nat} {u:Value}:Kept (OldB H) w (w.setCell ⟨H,k,none⟩ u):=Kept.setCell fun _ h=>Nat.lt_irrefl _ h
theorem cutB_of {m:MdlD} {p:Ph} {w W1 w4 w5:World} {a1 a2 a3 a4 a5:Option Addr} {c1 c2 c3 c4 c5:Nat} {q:Nat->Nat} (hc:CSt m w q ⟨a1,c1,a2,c2,a3,c3,p.a4,p.c4,p.a5,p.c5⟩ (fun _=>True) (fun _=>True) W1) (hO3:Own3 w.heap.size m a1 c1 a2 c2 a3 c3 W1)
   (hs4:Sl (NewB W1.drew.heap.size w4.heap.size) 8 (VerE (OldB w.heap.size)) w4 (.slice a4 m.vers.length c4) m.vers) (o4:OwnV W1.drew.heap.size 49 8 w4 (.slice a4 m.vers.length c4)) (g4:Below W1.drew.heap.size W1.drew w4)
   (hs5:Sl (NewB w4.heap.size w5.heap.size) 8 (TrnE (OldB w.heap.size)) w5 (.slice a5 m.trns.length c5) m.trns) (o5:OwnV w4.heap.size 59 8 w5 (.slice a5 m.trns.length c5)) (g5:Bl w4 w5) :
   CutB m w ((w5.setCell ⟨w.heap.size,4,none⟩ (.slice a4 m.vers.length c4)).setCell ⟨w.heap.size,5,none⟩ (.slice a5 m.trns.length c5)):=by
 have k4:W1.heap.size<=w4.heap.size:=g4.size
 have k5:=g5.size
 have h3:=hc.q3
 have hz:=hc.qz
 have h0:=hc.q0
 have h01:q 0<=q 1:=hc.qm 0
 have h12:q 1<=q 2:=hc.qm 1
 have h23:q 2<=q 3:=hc.qm 2
 have h34:q 3<=q 4:=hc.qm 3
 have h45:q 4<=q 5:=hc.qm 4
 have hk:∀ lo hi,w.heap.size<lo->Kept (NewB lo hi) w5 ((w5.setCell ⟨w.heap.size,4,none⟩ (.slice a4 m.vers.length c4)).setCell ⟨w.heap.size,5,none⟩ (.slice a5 m.trns.length c5)):=fun lo hi hl =>
   (NewB.kept_set hl).trans (NewB.kept_set hl)
 have ho:Kept (OldB w.heap.size) w5 ((w5.setCell ⟨w.heap.size,4,none⟩ (.slice a4 m.vers.length c4)).setCell ⟨w.heap.size,5,none⟩ (.slice a5 m.trns.length c5)):=OldB.kept_set.trans OldB.kept_set
 have G4:Bl W1 w4:=(Below.refl _ W1).drew.trans g4
 have G5:=G4.trans (g5.mono k4)
 have kk:∀ lo hi,w.heap.size<lo->Kept (NewB lo hi) W1 _:=fun lo hi hl=>(Kept.of_below G5).trans (hk lo hi hl)
 refine ⟨⟨a1,c1,a2,c2,a3,c3,a4,c4,a5,c5⟩,qs (q 0) (q 1) (q 2) W1.heap.size w4.heap.size w5.heap.size w5.heap.size w5.heap.size,?_,(Own5.set (Own5.set ⟨hO3.o1.below G5,hO3.o2.below G5,hO3.o3.below G5,(o4.mono (lo':=w.heap.size) (by show _<=W1.heap.size;omega)).below g5,o5.mono (by omega)⟩ _ _) _ _)⟩
 refine ⟨((hc.box.below G5 (by omega)).set4 _).set5 _,?_,?_,hc.q0,?_,?_,?_,?_,?_,?_,?_⟩
 . rw [Below.heap_setCell _ _ _ _ (by simp only;omega),Below.heap_setCell _ _ _ _ (by simp only;omega),G5.block _ (by omega)];exact hc.res
 . exact ((hc.bel.trans (G5.mono (by omega))).setCell (Nat.le_refl _) _).setCell (Nat.le_refl _) _
 . intro j
   match j with
   | 0=>exact h01
   | 1=>exact h12
   | 2=>show q 2<=W1.heap.size;omega
   | 3=>exact k4
   | 4=>exact k5
   | 5=>exact Nat.le_refl _
   | 6=>exact Nat.le_refl _
   | n+7=>exact Nat.le_refl _
 . show w5.heap.size<=_
   simp
 . exact Sl.kept (VarE.mono (R:=NewB (q 0) (q 1))) hc.vars (kk (q 0) (q 1) (by omega)) (kk (q 0) (q 1) (by omega))
 . exact Sl.kept (TxtE.mono (R:=NewB (q 1) (q 2))) hc.evs (kk (q 1) (q 2) (by omega)) (kk (q 1) (q 2) (by omega))
 . have:=Sl.kept (RegE.mono (R:=NewB (q 2) (q 3))) hc.regs (kk (q 2) (q 3) (by omega)) (kk (q 2) (q 3) (by omega))
   have hw:q 3<=W1.heap.size:=by omega
   exact this.weaken (fun _ _ hb=>hb.wide (Nat.le_refl _) hw) fun _ _ _ h=>h
 . have e:Kept (NewB W1.heap.size w4.heap.size) w4 _:=(Kept.of_below g5).trans (hk _ _ (by omega))
   have e2:Kept (OldB w.heap.size) w4 _:=(Kept.of_below g5).trans ho
   exact Sl.kept VerE.mono hs4 e e2
 . have e:Kept (NewB w4.heap.size w5.heap.size) w5 _:=hk _ _ (by omega)
   exact Sl.kept TrnE.mono hs5 e ho
def VerP (w:World) (q:Nat->Nat) (r:Ph) (m:MdlD) (k:Nat) (wx:World):Prop:=Part VerE w.heap.size (q 3) (q 4) (q 5) k r.a4 r.c4 m.vers wx
def VerF (q:Nat->Nat) (q6:Nat) (r:Ph) (m:MdlD) (wx:World):Prop:=Sl (NewB (q 3) (q 4)) 8 (VerE (NewS (q 5) q6)) wx (.slice r.a4 m.vers.length r.c4) m.vers
def TrnP (w:World) (q:Nat->Nat) (q6:Nat) (r:Ph) (m:MdlD) (k:Nat) (wx:World):Prop:=Part TrnE w.heap.size (q 4) (q 5) q6 k r.a5 r.c5 m.trns wx
def TrnF (q:Nat->Nat) (q6 q7:Nat) (r:Ph) (m:MdlD) (wx:World):Prop:=Sl (NewB (q 4) (q 5)) 8 (TrnE (NewS q6 q7)) wx (.slice r.a5 m.trns.length r.c5) m.trns
theorem Part.get {α:Type} {E:BP->World->Nat->Nat->α->Prop} {H q3 q4 q5 k:Nat} {a:Option Addr} {c:Nat} {l:List α} {w:World} (h:Part E H q3 q4 q5 k a c l w) (hk:k<l.length):∃ b off,a=some ⟨b,off,none⟩/\NewB q3 q4 b w.heap[b]? /\ Half E H q5 b off k l w:=by
 rcases h with h | ⟨b,off,ha,_,hq,hh⟩
 . rw [h] at hk;simp at hk
 . exact ⟨b,off,ha,hq,hh⟩
theorem Part.cap {α:Type} {E:BP->World->Nat->Nat->α->Prop} {H q3 q4 q5 k:Nat} {a:Option Addr} {c:Nat} {l:List α} {w:World} (h:Part E H q3 q4 q5 k a c l w) (hk:k<l.length):l.length<=c:=by
 rcases h with h | ⟨b,off,ha,hc,hq,hh⟩
 . rw [h] at hk;simp at hk
 . exact hc
theorem ver_round {m:MdlD} {w:World} {q:Nat->Nat} {r:Ph} {k:Nat} {wr w1:World} {b off:Nat} {dv:Value} (hc:CSt m w q r (VerP w q r m k) (TrnS w q r m) wr) (hk:k<m.vers.length) (ha:r.a4=some ⟨b,off,none⟩) (hq:NewB (q 3) (q 4) b wr.heap[b]?) (hh:Half VerE w.heap.size (q 5) b off k m.vers wr)
   (g:Below wr.drew.heap.size wr.drew w1) (hs:SlS (NewS wr.drew.heap.size w1.heap.size) w1 dv m.vers[k].df):CSt m w q r (VerP w q r m (k+1)) (TrnS w q r m) (w1.setCell ⟨b,off+k * 8+6,none⟩ dv):=by
 have g':Bl wr w1:=(Below.refl _ wr).drew.trans g
 have h3:=hc.q3
 have hz:=hc.qz
 have h34:q 3<=q 4:=hc.qm 3
 have h45:q 4<=q 5:=hc.qm 4
 have hb1:=hq.1
 have hb2:=hq.2.1
 have hbz:b<wr.heap.size:=by omega
 refine hc.step (V':=VerP w q r m (k+1)) (T':=TrnS w q r m) g' hb1 dv (.inr ⟨b,off,ha,Part.cap hc.vers hk,NewB.set (by rw [g'.block _ hbz];exact hq) _ _,Half.step VerE.inn hh hk (by omega) (by omega) hz g' hs⟩) ?_
 have hkk:Kept (NewB (q 4) (q 5)) wr (w1.setCell ⟨b,off+k * 8+6,none⟩ dv):=(Kept.of_below g').trans (Kept.setCell fun _ hQ=>by have:=hQ.1;simp only at this;omega)
 have hko:Kept (OldB w.heap.size) wr (w1.setCell ⟨b,off+k * 8+6,none⟩ dv):=(Kept.of_below g').trans (Kept.setCell fun _ hQ=>by have:b<w.heap.size:=hQ;omega)
 exact Sl.kept TrnE.mono hc.trns hkk hko
theorem ver_done {m:MdlD} {w:World} {q:Nat->Nat} {r:Ph} {wr:World} (hc:CSt m w q r (VerP w q r m m.vers.length) (TrnS w q r m) wr):CSt m w q r (VerF q wr.heap.size r m) (TrnP w q wr.heap.size r m 0) wr :=
 ⟨hc.box,hc.res,hc.bel,hc.q0,hc.qm,hc.qz,hc.vars,hc.evs,hc.regs,Part.done hc.vers (Nat.le_trans (hc.qm 4) hc.qz),Part.start (c:=r.c5) hc.trns⟩
theorem trn_round {m:MdlD} {w:World} {q:Nat->Nat} {q6:Nat} {r:Ph} {k:Nat} {wr w1:World} {b off:Nat} {dv:Value} (hc:CSt m w q r (VerF q q6 r m) (TrnP w q q6 r m k) wr) (h6:q 5<=q6) (hz6:q6<=wr.heap.size) (hk:k<m.trns.length) (ha:r.a5=some ⟨b,off,none⟩) (hq:NewB (q 4) (q 5) b wr.heap[b]?) (hh:Half TrnE w.heap.size q6 b off k m.trns wr)
   (g:Below wr.drew.heap.size wr.drew w1) (hs:SlS (NewS wr.drew.heap.size w1.heap.size) w1 dv m.trns[k].tr):CSt m w q r (VerF q q6 r m) (TrnP w q q6 r m (k+1)) (w1.setCell ⟨b,off+k * 8+3,none⟩ dv):=by
 have g':Bl wr w1:=(Below.refl _ wr).drew.trans g
 have h3:=hc.q3
 have hz:=hc.qz
 have h34:q 3<=q 4:=hc.qm 3
 have h45:q 4<=q 5:=hc.qm 4
 have hb1:=hq.1
 have hb2:=hq.2.1
 have hbz:b<wr.heap.size:=by omega
 have hk4:Kept (NewB (q 3) (q 4)) wr (w1.setCell ⟨b,off+k * 8+3,none⟩ dv):=(Kept.of_below g').trans (Kept.setCell fun _ hQ=>by have:=hQ.2.1;simp only at this;omega)
 have hk6:Kept (NewB (q 5) q6) wr (w1.setCell ⟨b,off+k * 8+3,none⟩ dv):=(Kept.of_below g').trans (Kept.setCell fun _ hQ=>by have:=hQ.1;simp only at this;omega)
 exact hc.step (V':=VerF q q6 r m) (T':=TrnP w q q6 r m (k+1)) g' (by omega) dv (Sl.kept VerE.mono hc.vers hk4 hk6.newS) (.inr ⟨b,off,ha,Part.cap hc.trns hk,NewB.set (by rw [g'.block _ hbz];exact hq) _ _,Half.step TrnE.inn hh hk (by omega) (by omega) hz6 g' hs⟩)
theorem trn_done {m:MdlD} {w:World} {q:Nat->Nat} {q6:Nat} {r:Ph} {wr:World} (hc:CSt m w q r (VerF q q6 r m) (TrnP w q q6 r m m.trns.length) wr):CSt m w q r (VerF q q6 r m) (TrnF q q6 wr.heap.size r m) wr :=
 ⟨hc.box,hc.res,hc.bel,hc.q0,hc.qm,hc.qz,hc.vars,hc.evs,hc.regs,hc.vers,Part.done hc.trns hc.qz⟩
theorem copy_done {m:MdlD} {w:World} {q:Nat->Nat} {q6 q7:Nat} {r:Ph} {wr wf:World} (hc:CSt m w q r (VerF q q6 r m) (TrnF q q6 q7 r m) wr) (h6:q 5<=q6) (h7:q6<=q7) (hz:q7<=wr.heap.size) (hk:∀ lo hi,w.heap.size+2<=lo->Kept (NewB lo hi) wr wf) (hb:Below w.heap.size wr wf) (ho:Own5 w.heap.size m r wf):CopyX m w (.returned (mdV m r)) wf:=by
 have h0:=hc.q0
 have h01:q 0<=q 1:=hc.qm 0
 have h12:q 1<=q 2:=hc.qm 1
 have h23:q 2<=q 3:=hc.qm 2
 have h34:q 3<=q 4:=hc.qm 3
 have h45:q 4<=q 5:=hc.qm 4
 have e0:=Sl.kept (VarE.mono (R:=NewB (q 0) (q 1))) hc.vars (hk (q 0) (q 1) (by omega)) (hk (q 0) (q 1) (by omega))
 have e1:=SlS.sl.2 (Sl.kept (TxtE.mono (R:=NewB (q 1) (q 2))) hc.evs (hk (q 1) (q 2) (by omega)) (hk (q 1) (q 2) (by omega)))
 have e2:=Sl.kept (RegE.mono (R:=NewB (q 2) (q 3))) hc.regs (hk (q 2) (q 3) (by omega)) (hk (q 2) (q 3) (by omega))
 have e3:=Sl.kept VerE.mono hc.vers (hk (q 3) (q 4) (by omega)) (hk (q 5) q6 (by omega)).newS
 have e4:=Sl.kept TrnE.mono hc.trns (hk (q 4) (q 5) (by omega)) (hk q6 q7 (by omega)).newS
 have hS:∀ (lo hi:Nat),w.heap.size<=lo->∀ b,b<wf.heap.size->NewS lo hi b wf.heap[b]? -> TB w.heap.size 9 b wf.heap[b]? := fun lo hi hl b _ hq=>⟨Nat.le_trans hl hq.1,hq.2.2⟩
 refine ⟨⟨r,qs (q 0) (q 1) (q 2) (q 3) (q 4) (q 5) q6 q7,rfl,⟨e0,e1,e2,e3.weaken (fun _ _ h=>h) fun _ _ _ h=>h.weaken fun b _ hq=>hq.newB,e4.weaken (fun _ _ h=>h) fun _ _ _ h=>h.weaken fun b _ hq=>hq.newB⟩,by show _<=q 0;omega,?_,by show q7<=_;have:=hb.size;omega,hc.bel.trans hb⟩,r,rfl,⟨e0.typed ho.o1,SlS.sl.2 ((SlS.sl.1 e1).typed ho.o2),e2.typed ho.o3,(e3.typed ho.o4).weaken (fun _ _ h=>h) fun _ _ _ h=>h.weaken (hS _ _ (by omega)),(e4.typed ho.o5).weaken (fun _ _ h=>h) fun _ _ _ h=>h.weaken (hS _ _ (by omega))⟩,ho⟩
 . intro j
   match j with
   | 0=>exact h01
   | 1=>exact h12
   | 2=>exact h23
   | 3=>exact h34
   | 4=>exact h45
   | 5=>exact h6
   | 6=>exact h7
   | n+7=>exact Nat.le_refl _
theorem zero_box {w:World} {b:Nat} (h:w.heap[b]? = some zeroM):Box w b (.string ⟨#[]⟩) (.slice none 0 0) (.slice none 0 0) (.slice none 0 0) (.slice none 0 0) (.slice none 0 0):=by
 unfold zeroM at h
 constructor <;> first | (unfold World.cell?;simp only [h];rfl) | (unfold World.frozen?;simp [h])
theorem Sl.take {α:Type} {Q:BP} {sz:Nat} {E:World->Nat->Nat->α->Prop} {w:World} {a:Option Addr} {c:Nat} {l:List α} (h:Sl Q sz E w (.slice a l.length c) l) {k:Nat} (hk:k<=l.length):Sl Q sz E w (.slice a (l.take k).length c) (l.take k):=by
 rcases h.two with ⟨_,rfl⟩ | ⟨_,b,off,rfl,hb,hq,hx⟩
 . exact .inl ⟨a,c,by simp,by simp⟩
 . exact .inr ⟨b,off,c,rfl,by
     rcases Nat.eq_zero_or_pos l.length with h0 | h0
     . simp;omega
     . have:=h.cap h0;simp;omega,hb,hq,fun i hi=>by
     have:i<l.length:=by simp at hi;omega
     have e:(l.take k)[i]=l[i]:=by simp
     rw [e];exact hx i this⟩
theorem SlS.take {Q:BP} {w:World} {a:Option Addr} {c:Nat} {l:List ByteArray} (h:SlS Q w (.slice a l.length c) l) {k:Nat} (hk:k<=l.length):SlS Q w (.slice a (l.take k).length c) (l.take k):=SlS.sl.2 ((SlS.sl.1 h).take hk)
theorem box6 (w:World) (m:MdlD) (p:Ph):Box (w.alloc (.cells #[.string m.nm,.slice p.a1 m.vars.length p.c1,.slice p.a2 m.evs.length p.c2,.slice p.a3 m.regs.length p.c3,.slice p.a4 m.vers.length p.c4,.slice p.a5 m.trns.length p.c5] 42)) w.heap.size (.string m.nm) (.slice p.a1 m.vars.length p.c1) (.slice p.a2 m.evs.length p.c2) (.slice p.a3 m.regs.length p.c3) (.slice p.a4 m.vers.length p.c4) (.slice p.a5 m.trns.length p.c5):=by
 constructor <;> simp
theorem below_al2 (w:World) (o1 o2:Obj):Bl w ((w.alloc o1).alloc o2):=((Below.refl _ w).alloc (Nat.le_refl _) _).alloc (by simp) _
theorem below_al1 (w:World) (o1:Obj):Bl w (w.alloc o1):=(Below.refl _ w).alloc (Nat.le_refl _) _
theorem bx1 {w w3:World} {o1:Obj} {k:Nat} {u:Value} (g:Below (w.alloc o1).heap.size (w.alloc o1) w3) (h:(w.alloc o1).cell? ⟨w.heap.size,k,none⟩=some u):w3.cell? ⟨w.heap.size,k,none⟩=some u :=
 (g.cell (p:=⟨w.heap.size,k,none⟩) (by simp)).trans h
theorem below_bx1 {w w3:World} {o1:Obj} (g:Below (w.alloc o1).heap.size (w.alloc o1) w3):Bl w w3 :=
 ((Below.refl _ w).alloc (Nat.le_refl _) _).trans (g.mono (by simp))
end Go.Proofs
