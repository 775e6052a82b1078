/- Rows of one's own: a row put behind one; cells written in one. -/
import Derived.Maps.AppendAt
import Derived.Test.YtfladiadgkfebaaGreatDoorKEpST
namespace Go.Proofs
open Go.RowKit Go.Lx Go.Md Go.Shelf
set_option linter.unusedVariables false
structure GrT (lo:Nat) (S:TypeId->Prop) (w w':World):Prop where
 os:w'.os=w.os
 tape:w'.tape=w.tape
 output:w'.output=w.output
 size:w.heap.size<=w'.heap.size
 block:∀ b,b<w.heap.size->(∀ T:TypeId,S T->¬ TB lo T b w.heap[b]?)->w'.heap[b]? = w.heap[b]?
 typ:∀ (b:Nat) (T:TypeId) (cur:Array Value),w.heap[b]? = some (.cells cur T (0,0))->∃ cur',w'.heap[b]? = some (.cells cur' T (0,0))/\cur'.size=cur.size
theorem GrT.refl (lo:Nat) (S:TypeId->Prop) (w:World):GrT lo S w w:=⟨rfl,rfl,rfl,Nat.le_refl _,fun _ _ _=>rfl,fun b T cur h=>⟨cur,h,rfl⟩⟩
theorem TB.back {lo:Nat} {S:TypeId->Prop} {w w':World} (h:GrT lo S w w') {b:Nat} (hb:b<w.heap.size) (hn:∀ T,S T->¬ TB lo T b w.heap[b]?):∀ T,S T->¬ TB lo T b w'.heap[b]? := fun T hT=>by rw [h.block b hb hn];exact hn T hT
theorem GrT.trans {lo:Nat} {S:TypeId->Prop} {a b c:World} (h:GrT lo S a b) (k:GrT lo S b c):GrT lo S a c :=
 ⟨k.os.trans h.os,k.tape.trans h.tape,k.output.trans h.output,Nat.le_trans h.size k.size,fun x hx hn=>(k.block x (Nat.lt_of_lt_of_le hx h.size) (TB.back h hx hn)).trans (h.block x hx hn),fun x T cur hx=>by
   obtain ⟨c1,h1,e1⟩:=h.typ x T cur hx
   obtain ⟨c2,h2,e2⟩:=k.typ x T c1 h1
   exact ⟨c2,h2,e2.trans e1⟩⟩
theorem GrT.wide {lo lo':Nat} {S S':TypeId->Prop} {w w':World} (h:GrT lo S w w') (hl:lo'<=lo) (hS:∀ T,S T->S' T):GrT lo' S' w w' :=
 ⟨h.os,h.tape,h.output,h.size,fun b hb hn=>h.block b hb fun T hT hq=>hn T (hS T hT) ⟨Nat.le_trans hl hq.1,hq.2⟩,h.typ⟩
theorem GrT.of_below {lo:Nat} {S:TypeId->Prop} {w w':World} (h:Bl w w'):GrT lo S w w' :=
 ⟨h.os,h.tape,h.output,h.size,fun b hb _=>h.block b hb,fun b T cur hb=>⟨cur,(h.block b (Array.getElem?_eq_some_iff.1 hb).1).trans hb,rfl⟩⟩
theorem GrT.below {lo:Nat} {S:TypeId->Prop} {w w':World} (h:GrT lo S w w') {B:Nat} (hB:B<=lo) (hz:B<=w.heap.size):Below B w w' :=
 ⟨h.os,h.tape,h.output,h.size,fun b hb=>h.block b (Nat.lt_of_lt_of_le hb hz) fun T _ hq=>by have:=hq.1;omega⟩
theorem GrT.drew {lo:Nat} {S:TypeId->Prop} {a w:World} (h:GrT lo S a w):GrT lo S a w.drew:=⟨h.os,h.tape,h.output,h.size,h.block,h.typ⟩
theorem GrT.keep {lo lo':Nat} {S:TypeId->Prop} {w w':World} (h:GrT lo S w w') {T:TypeId} (hT:¬ S T):Kept (TB lo' T) w w' :=
 ⟨h.size,fun b hb hq=>h.block b hb fun T' hT' hq'=>by
   obtain ⟨_,c1,e1⟩:=hq
   obtain ⟨_,c2,e2⟩:=hq'
   rw [e1] at e2
   simp only [Option.some.injEq,Obj.cells.injEq] at e2
   exact hT (by rw [e2.2.1];exact hT')⟩
theorem GrT.own {lo lo':Nat} {S:TypeId->Prop} {w w':World} (h:GrT lo S w w') {T:TypeId} {sz:Nat} {v:Value} (ho:OwnV lo' T sz w v):OwnV lo' T sz w' v:=by
 rcases ho with ho | ⟨g,n,c,cur,rfl,h1,h2,h3,h4,h5⟩
 . exact .inl ho
 . obtain ⟨cur',e1,e2⟩:=h.typ g T cur h2
   exact .inr ⟨g,n,c,cur',rfl,h1,e1,h3,h4,e2.trans h5⟩
theorem TB.mono {lo lo':Nat} {T:TypeId} {b:Nat} {o:Option Obj} (h:TB lo T b o) (hl:lo'<=lo):TB lo' T b o:=⟨Nat.le_trans hl h.1,h.2⟩
theorem TB.free {lo:Nat} {T:TypeId} {w:World} {b k:Nat} (h:TB lo T b w.heap[b]?):w.frozen? ⟨b,k,none⟩=false:=by
 obtain ⟨_,cur,h⟩:=h
 unfold World.frozen?
 simp [h]
theorem GrT.set {lo:Nat} {S:TypeId->Prop} {a w:World} (h:GrT lo S a w) {g o:Nat} {T:TypeId} (hg:TB lo T g w.heap[g]?) (hT:S T) (u:Value):GrT lo S a (w.setCell ⟨g,o,none⟩ u):=by
 refine h.trans ⟨rfl,rfl,rfl,by simp,fun b hb hn=>Below.heap_setCell w ⟨g,o,none⟩ u b ?_,fun b T' cur hb=>?_⟩
 . rintro rfl
   exact hn T hT hg
 . by_cases hab:b=g
   . subst hab
     unfold World.setCell
     simp only [Array.getElem?_modify,if_true,hb,Option.map_some]
     exact ⟨_,rfl,by simp⟩
   . exact ⟨cur,(Below.heap_setCell w ⟨g,o,none⟩ u b hab).trans hb,rfl⟩
theorem OwnM.below {lo:Nat} {w w':World} {m:MdlD} {p:Ph} (h:OwnM lo w m p) (g:Bl w w'):OwnM lo w' m p:=⟨h.mod.below g,h.own.below g⟩
section
variable {P:Program}
theorem run_append_sl {α:Type} {Q2:BP} {sz lo:Nat} {E:World->Nat->Nat->α->Prop} {K:World->World->Prop} (hE:Moves sz E K) (w:World) (t ty e:TypeId) (i:TypeInfo) (z:Value) (bytes:Nat) (ht:P.underlying t=some (.slice e)) (hi:P.info? e=some i) (hz:i.zero=some z)
   (hsize:i.size=sz) (hby:i.bytes=bytes) (hzs:z.cells.size=sz) (hsz:0<sz) (hb:bytes<=1000) {a a2:Option Addr} {c c2:Nat} {l r:List α} (hl:Sl (TB lo e) sz E w (.slice a l.length c) l) (ho:OwnV lo e sz w (.slice a l.length c)) (hr:Sl Q2 sz E w (.slice a2 r.length c2) r) (hn:l.length+r.length<=1000000) (hlo:lo<=w.heap.size) :
   ∃ a' c' w',(Builtin.append_ #[t,t] ty #[.slice a l.length c,.slice a2 r.length c2]).run P w=.ok (.slice a' (l ++ r).length c') w'/\OwnV lo e sz w' (.slice a' (l ++ r).length c')/\GrT lo (· = e) w w'/\(K w w'->Sl (TB lo e) sz E w' (.slice a' (l ++ r).length c') (l ++ r)):=by
 have hbb:∀ x,x<=1000000->x * bytes<=140737488355328:=fun x hx=>by
   have:x * bytes<=1000000 * 1000:=Nat.mul_le_mul hx hb
   omega
 -- nothing to be put behind
 rcases Nat.eq_zero_or_pos r.length with hr0 | hr0
 . obtain rfl:r=[]:=List.eq_nil_of_length_eq_zero hr0
   have hle:l.length<=c:=by
     rcases ho with ⟨_,h⟩ | ⟨_,_,_,_,h,_,_,h2,_⟩
     . simp only [Value.slice.injEq] at h;omega
     . simp only [Value.slice.injEq] at h;omega
   refine ⟨a,c,w,?_,by rw [List.append_nil];exact ho,GrT.refl _ _ _,fun _=>by rw [List.append_nil];exact hl⟩
   rw [List.append_nil]
   subst hsize
   cases a2 with
   | none=>cases a <;> simp [Builtin.append_,run_underlying ht,sizeOf,typeInfo,hi,Builtin.lenOf,Builtin.firstCells,hle,storeCells]
   | some ad=>cases a <;> simp [Builtin.append_,run_underlying ht,sizeOf,typeInfo,hi,Builtin.lenOf,Builtin.firstCells,hle,storeCells,loadCells,loadCellsFrom]
 . rw [List.length_append]
   rcases hr.two with ⟨_,rfl⟩ | ⟨_,b2,o2,rfl,hb2,hq2,hx2⟩
   . simp at hr0
   obtain ⟨k1,k2⟩:=cellsAt_cell (sl_cells hE hx2)
   -- the new cells,read
   have fin:∀ {g:Nat} {c':Nat} {w':World} (xs:List Value),xs.length=l.length * sz->(∀ j u,j<l.length * sz->xs[j]? = some u->∃ b off,a=some ⟨b,off,none⟩/\w.cell? ⟨b,off+j,none⟩=some u)->w'.ownsRow lo e sz (.slice (some ⟨g,0,none⟩) (l.length+r.length) c') (l.length+r.length) (xs ++ cellsAt w b2 o2 (r.length * sz)) ->
       (K w w'->Sl (TB lo e) sz E w' (.slice (some ⟨g,0,none⟩) (l.length+r.length) c') (l ++ r)):=fun {g} {c'} {w'} xs hxl hxc hrow hK=>by
     obtain ⟨g',cap,hv,hcap,hlg,hg,⟨cur,hcur⟩,hc⟩:=owns_cells hrow (Nat.mul_pos (by omega) hsz)
     simp only [Value.slice.injEq,Option.some.injEq,Addr.mk.injEq] at hv
     obtain ⟨⟨rfl,_⟩,_,rfl⟩:=hv
     refine .inr ⟨g,0,c',by rw [List.length_append],by rw [List.length_append];exact hcap,hg,⟨hlg,cur,hcur⟩,fun k hk=>?_⟩
     rw [List.length_append] at hk
     have hkj:∀ j,j<sz->k * sz+j<(l.length+r.length) * sz:=fun j hj=>by
       have:(k+1) * sz<=(l.length+r.length) * sz:=Nat.mul_le_mul_right _ (by omega)
       rw [Nat.add_mul] at this;omega
     by_cases hkl:k<l.length
     . rw [List.getElem_append_left hkl]
       have hkj2:∀ j,j<sz->k * sz+j<l.length * sz:=fun j hj=>by
         have:(k+1) * sz<=l.length * sz:=Nat.mul_le_mul_right _ (by omega)
         rw [Nat.add_mul] at this;omega
       obtain ⟨b1,o1,ha,hb1,he1⟩:=hl.get hkl
       refine hE.move _ _ _ _ _ _ _ he1 hK fun j hj=>?_
       rw [show 0+k * sz+j=k * sz+j by omega,hc _ (hkj j hj),List.getElem?_append_left (by rw [hxl];exact hkj2 j hj)]
       cases hu:xs[k * sz+j]? with
       | none=>rw [List.getElem?_eq_none_iff,hxl] at hu;have:=hkj2 j hj;omega
       | some u =>
        obtain ⟨b,off,ha',hcell⟩:=hxc _ u (hkj2 j hj) hu
        rw [ha] at ha'
        simp only [Option.some.injEq,Addr.mk.injEq] at ha'
        obtain ⟨rfl,rfl,_⟩:=ha'
        rw [<- hcell];congr 2;omega
     . rw [List.getElem_append_right (by omega)]
       obtain ⟨b1,o1,ha,hb1,he1⟩:=hr.get (k:=k - l.length) (by omega)
       simp only [Option.some.injEq,Addr.mk.injEq] at ha
       obtain ⟨rfl,rfl,_⟩:=ha
       refine hE.move _ _ _ _ _ _ _ he1 hK fun j hj=>?_
       have hsub:k * sz+j - l.length * sz=(k - l.length) * sz+j:=by
         rw [Nat.sub_mul]
         have:l.length * sz<=k * sz:=Nat.mul_le_mul_right _ (by omega)
         omega
       have hlt:(k - l.length) * sz+j<r.length * sz:=by
         have:(k - l.length+1) * sz<=r.length * sz:=Nat.mul_le_mul_right _ (by omega)
         rw [Nat.add_mul] at this;omega
       rw [show 0+k * sz+j=k * sz+j by omega,hc _ (hkj j hj),List.getElem?_append_right (by rw [hxl];have:l.length * sz<=k * sz:=Nat.mul_le_mul_right _ (by omega);omega),hxl,hsub,cellsAt_get hlt]
       obtain ⟨u,hu,_⟩:=sl_cells hE hx2 _ hlt
       rw [hu,Option.getD_some,show o2+(k - l.length) * sz+j=o2+((k - l.length) * sz+j) by omega,hu]
   -- a new block
   have new:∀ (xs:List Value) (old:Nat),xs.length=l.length * sz->(∀ j u,j<l.length * sz->xs[j]? = some u->∃ b off,a=some ⟨b,off,none⟩/\w.cell? ⟨b,off+j,none⟩=some u)->(Builtin.append_ #[t,t] ty #[.slice a l.length c,.slice (some ⟨b2,o2,none⟩) r.length c2]).run P w=.ok (.slice (some ⟨w.heap.size,0,none⟩) (l.length+r.length) (grownCap w (l.length+r.length) old e)) (w.drew.alloc (.cells (xs.toArray ++ (cellsAt w b2 o2 (r.length * sz)).toArray ++ Builtin.zeroCells z.cells (grownCap w (l.length+r.length) old e - (l.length+r.length))) e)) ->
       ∃ a' c' w',(Builtin.append_ #[t,t] ty #[.slice a l.length c,.slice (some ⟨b2,o2,none⟩) r.length c2]).run P w=.ok (.slice a' (l.length+r.length) c') w'/\OwnV lo e sz w' (.slice a' (l.length+r.length) c')/\GrT lo (· = e) w w'/\(K w w'->Sl (TB lo e) sz E w' (.slice a' (l.length+r.length) c') (l ++ r)):=fun xs old hxl hxc hrun=>by
     have hge:=grownCap_ge w (l.length+r.length) old e
     have hcm:grownCap w (l.length+r.length) old e<=maxLen:=grownCap_le_maxLen w (l.length+r.length) old e (by unfold maxLen;omega)
     have hxx:(xs ++ cellsAt w b2 o2 (r.length * sz)).length=(l.length+r.length) * sz:=by rw [List.length_append,hxl,cellsAt_len,Nat.add_mul]
     have hrow:(w.drew.alloc (.cells (xs.toArray ++ (cellsAt w b2 o2 (r.length * sz)).toArray ++ Builtin.zeroCells z.cells (grownCap w (l.length+r.length) old e - (l.length+r.length))) e)).ownsRow lo e sz (.slice (some ⟨w.heap.size,0,none⟩) (l.length+r.length) (grownCap w (l.length+r.length) old e)) (l.length+r.length) (xs ++ cellsAt w b2 o2 (r.length * sz)):=by
       refine ⟨hxx,.inr ⟨w.heap.size,_,_,rfl,hlo,heap_alloc_new w.drew _,hge,hcm,?_,?_⟩⟩
       . simp only [Array.size_append,List.size_toArray,size_zeroCells,hzs,hxl,cellsAt_len,<- Nat.add_mul]
         congr 1
         omega
       . simp only [Array.toList_append,List.append_assoc]
         rw [<- List.append_assoc,<- hxx]
         exact List.take_left
     refine ⟨_,_,_,hrun,OwnV.of_row hrow,GrT.of_below ⟨rfl,rfl,rfl,by simp,fun k hk=>heap_alloc_old w.drew _ hk⟩,fin xs hxl hxc hrow⟩
   rcases ho with ⟨a0,h0⟩ | ⟨g,n0,cc,cur,h0,hlg,hg,hnc,hcm,hcs⟩
   . simp only [Value.slice.injEq] at h0
     obtain ⟨rfl,hl0,rfl⟩:=h0
     obtain rfl:l=[]:=List.eq_nil_of_length_eq_zero hl0
     simp only [List.length_nil,Nat.zero_add] at hn
     refine new [] 0 (by simp) (fun j u hj=>by simp at hj) ?_
     simp only [List.length_nil,Nat.zero_add]
     cases a with
     | none =>
      have:=run_append_nil (P:=P) w t ty e i z ht hi hz ⟨b2,o2,none⟩ r.length c2 (cellsAt w b2 o2 (r.length * sz)) (by rw [cellsAt_len,hsize]) k1 hr0 (by omega) (by rw [hby];have:=hbb _ hn;omega)
      simpa using this
     | some ad =>
      have:=run_append_grow (P:=P) w t ty e i z ht hi hz ad 0 0 [] (by simp) (fun j v hj=>by simp at hj) ⟨b2,o2,none⟩ r.length c2 (cellsAt w b2 o2 (r.length * sz)) (by rw [cellsAt_len,hsize]) k1 (by omega) (by omega) (growslice_fits (by omega) (by rw [hby,Nat.zero_add];exact hbb _ hn))
      simpa using this
   . simp only [Value.slice.injEq] at h0
     obtain ⟨rfl,rfl,rfl⟩:=h0
     have htl:(cur.toList.take (l.length * sz)).length=l.length * sz:=by
       have h1:cur.toList.length=c * sz:=by rw [<- hcs];simp
       rw [List.length_take,h1];exact Nat.min_eq_left (Nat.mul_le_mul_right _ hnc)
     have hcell:∀ j u,j<l.length * sz->(cur.toList.take (l.length * sz))[j]? = some u->w.cell? ⟨g,j,none⟩=some u:=fun j u hj hu=>by
       unfold World.cell?
       simp only [hg]
       rw [List.getElem?_take_of_lt hj] at hu
       simpa using hu
     by_cases hroom:l.length+r.length<=c
     . have hfit:l.length * sz+(cellsAt w b2 o2 (r.length * sz)).length<=cur.size:=by rw [cellsAt_len,hcs,<- Nat.add_mul];exact Nat.mul_le_mul_right _ hroom
       have hrun:=run_append_room (P:=P) w t ty e i ht hi g l.length c cur hg ⟨b2,o2,none⟩ r.length c2 (cellsAt w b2 o2 (r.length * sz)) (by rw [cellsAt_len,hsize]) k1 k2 hroom (by rw [hsize];exact hfit)
       rw [hsize] at hrun
       obtain ⟨cur',hcur'⟩:∃ cur',cur'=(cur.toList.take (l.length * sz) ++ cellsAt w b2 o2 (r.length * sz) ++ cur.toList.drop (l.length * sz+(cellsAt w b2 o2 (r.length * sz)).length)).toArray:=⟨_,rfl⟩
       rw [<- hcur'] at hrun
       have hsz':cur'.size=cur.size:=by
         rw [hcur']
         simp only [List.size_toArray,List.length_append,List.length_drop,Array.length_toList,htl]
         omega
       have hrow:(w.setRow g cur').ownsRow lo e sz (.slice (some ⟨g,0,none⟩) (l.length+r.length) c) (l.length+r.length) (cur.toList.take (l.length * sz) ++ cellsAt w b2 o2 (r.length * sz)):=by
         have hxx:(cur.toList.take (l.length * sz) ++ cellsAt w b2 o2 (r.length * sz)).length=(l.length+r.length) * sz:=by rw [List.length_append,htl,cellsAt_len,Nat.add_mul]
         refine ⟨hxx,.inr ⟨g,c,cur',rfl,hlg,setRow_heap w g cur _ e _ hg,hroom,hcm,hsz'.trans hcs,?_⟩⟩
         rw [hcur',<- hxx]
         exact List.take_left
       refine ⟨_,_,_,hrun,OwnV.of_row hrow,⟨rfl,rfl,rfl,by simp [World.setRow],fun b hb hnn=>setRow_other w g b _ ?_,fun b T cu hb=>?_⟩,fin _ htl (fun j u hj hu=>⟨g,0,rfl,by rw [Nat.zero_add];exact hcell j u hj hu⟩) hrow⟩
       . rintro rfl
         exact hnn e rfl ⟨hlg,cur,hg⟩
       . by_cases hbg:b=g
         . subst hbg
           rw [hg] at hb
           simp only [Option.some.injEq,Obj.cells.injEq] at hb
           obtain ⟨rfl,rfl,_⟩:=hb
           exact ⟨cur',setRow_heap w b cur _ e _ hg,hsz'⟩
         . exact ⟨cu,(setRow_other w g b _ hbg).trans hb,rfl⟩
     . refine new _ c htl (fun j u hj hu=>⟨g,0,rfl,by rw [Nat.zero_add];exact hcell j u hj hu⟩) ?_
       exact run_append_grow (P:=P) w t ty e i z ht hi hz ⟨g,0,none⟩ l.length c (cur.toList.take (l.length * sz)) (by rw [htl,hsize]) (fun j u hu=>by
         rw [Addr.add_lit,Nat.zero_add]
         refine hcell j u ?_ hu
         rcases Nat.lt_or_ge j (l.length * sz) with h | h
         . exact h
         . rw [List.getElem?_eq_none (by rw [htl];exact h)] at hu;cases hu) ⟨b2,o2,none⟩ r.length c2 (cellsAt w b2 o2 (r.length * sz)) (by rw [cellsAt_len,hsize]) k1 (by omega) (by omega) (growslice_fits (by omega) (by rw [hby];exact hbb _ hn))
end
theorem TB.set {lo:Nat} {T:TypeId} {b:Nat} {w:World} (h:TB lo T b w.heap[b]?) (a:Addr) (u:Value):TB lo T b (w.setCell a u).heap[b]? := by
 obtain ⟨h1,cur,h⟩:=h
 refine ⟨h1,?_⟩
 by_cases hab:b=a.block
 . subst hab
   unfold World.setCell
   simp only [Array.getElem?_modify,if_true,h,Option.map_some]
   cases a.spot with
   | none=>exact ⟨_,rfl⟩
   | some s=>exact ⟨_,rfl⟩
 . rw [Below.heap_setCell w a u b hab];exact ⟨cur,h⟩
theorem GrT.set1 {lo:Nat} {T:TypeId} {w:World} {g o:Nat} (hg:TB lo T g w.heap[g]?) (u:Value):GrT lo (· = T) w (w.setCell ⟨g,o,none⟩ u):=(GrT.refl lo (· = T) w).set hg rfl u
theorem TB.ne {lo lo':Nat} {T T':TypeId} {b:Nat} {o:Option Obj} (h:TB lo T b o) (h':TB lo' T' b o):T=T':=by
 obtain ⟨_,c1,e1⟩:=h
 obtain ⟨_,c2,e2⟩:=h'
 rw [e1] at e2
 simp only [Option.some.injEq,Obj.cells.injEq] at e2
 exact e2.2.1
theorem Kept.other {lo lo':Nat} {T T':TypeId} {w:World} {g o:Nat} {u:Value} (hg:TB lo T g w.heap[g]?) (hT:T'≠T):Kept (TB lo' T') w (w.setCell ⟨g,o,none⟩ u):=by
 refine ⟨by simp,fun b hb hq=>Below.heap_setCell w ⟨g,o,none⟩ u b ?_⟩
 intro e
 have e2:b=g:=e
 rw [e2] at hq
 exact hT (hq.ne hg)
theorem Sl.modify {α:Type} {Q:BP} {sz:Nat} {E:World->Nat->Nat->α->Prop} {w w':World} {a:Option Addr} {c k:Nat} {l:List α} {f:α->α} (h:Sl Q sz E w (.slice a l.length c) l) (hs:w.heap.size<=w'.heap.size) (hQ:∀ b,b<w.heap.size->Q b w.heap[b]? -> Q b w'.heap[b]?)
   (ho:∀ b o i (hi:i<l.length),a=some ⟨b,o,none⟩->Q b w.heap[b]? -> i≠k->E w b (o+i * sz) l[i]->E w' b (o+i * sz) l[i]) (hn:∀ b o (hk:k<l.length),a=some ⟨b,o,none⟩->Q b w.heap[b]? -> E w b (o+k * sz) l[k]->E w' b (o+k * sz) (f l[k])):Sl Q sz E w' (.slice a (l.modify k f).length c) (l.modify k f):=by
 rcases h with ⟨a',c',hv,rfl⟩ | ⟨b,off,cap,hv,h0,h1,h2,h3⟩
 . exact .inl ⟨a',c',by rw [<- hv];simp,by simp⟩
 . simp only [Value.slice.injEq] at hv
   obtain ⟨rfl,_,rfl⟩:=hv
   refine .inr ⟨b,off,c,rfl,by rw [List.length_modify];exact h0,Nat.lt_of_lt_of_le h1 hs,hQ b h1 h2,fun i hi=>?_⟩
   have hi2:i<l.length:=by rw [List.length_modify] at hi;exact hi
   rw [List.getElem_modify]
   split
   . rename_i e
     subst e
     exact hn b off hi2 rfl h2 (h3 k hi2)
   . rename_i e
     exact ho b off i hi2 rfl h2 (fun h=>e h.symm) (h3 i hi2)
theorem VerE.setRg {R:BP} {w w':World} {b o:Nat} {x:VerD} {t} (h:VerE R w b o x) (hk:Kept R w w') (hc:∀ j,j<8->j≠2->w'.cell? ⟨b,o+j,none⟩=w.cell? ⟨b,o+j,none⟩) (hn:w'.cell? ⟨b,o+2,none⟩=some (.int .i64 t)):VerE R w' b o { x with rg:=t }:=by
 obtain ⟨dv,hd,h0,h1,h2,h3,h4,h5,h6,h7⟩:=h
 refine ⟨dv,hd.kept hk,?_,?_,?_,?_,?_,?_,?_,?_⟩
 . first | exact hn | exact (hc 0 (by decide) (by decide)).trans h0
 . first | exact hn | exact (hc 1 (by decide) (by decide)).trans h1
 . first | exact hn | exact (hc 2 (by decide) (by decide)).trans h2
 . first | exact hn | exact (hc 3 (by decide) (by decide)).trans h3
 . first | exact hn | exact (hc 4 (by decide) (by decide)).trans h4
 . first | exact hn | exact (hc 5 (by decide) (by decide)).trans h5
 . first | exact hn | exact (hc 6 (by decide) (by decide)).trans h6
 . first | exact hn | exact (hc 7 (by decide) (by decide)).trans h7
theorem VerE.setOfv {R:BP} {w w':World} {b o:Nat} {x:VerD} {t} (h:VerE R w b o x) (hk:Kept R w w') (hc:∀ j,j<8->j≠3->w'.cell? ⟨b,o+j,none⟩=w.cell? ⟨b,o+j,none⟩) (hn:w'.cell? ⟨b,o+3,none⟩=some (.int .i64 t)):VerE R w' b o { x with ofv:=t }:=by
 obtain ⟨dv,hd,h0,h1,h2,h3,h4,h5,h6,h7⟩:=h
 refine ⟨dv,hd.kept hk,?_,?_,?_,?_,?_,?_,?_,?_⟩
 . first | exact hn | exact (hc 0 (by decide) (by decide)).trans h0
 . first | exact hn | exact (hc 1 (by decide) (by decide)).trans h1
 . first | exact hn | exact (hc 2 (by decide) (by decide)).trans h2
 . first | exact hn | exact (hc 3 (by decide) (by decide)).trans h3
 . first | exact hn | exact (hc 4 (by decide) (by decide)).trans h4
 . first | exact hn | exact (hc 5 (by decide) (by decide)).trans h5
 . first | exact hn | exact (hc 6 (by decide) (by decide)).trans h6
 . first | exact hn | exact (hc 7 (by decide) (by decide)).trans h7
theorem VerE.setSb {R:BP} {w w':World} {b o:Nat} {x:VerD} {t} (h:VerE R w b o x) (hk:Kept R w w') (hc:∀ j,j<8->j≠7->w'.cell? ⟨b,o+j,none⟩=w.cell? ⟨b,o+j,none⟩) (hn:w'.cell? ⟨b,o+7,none⟩=some (.string t)):VerE R w' b o { x with sb:=t }:=by
 obtain ⟨dv,hd,h0,h1,h2,h3,h4,h5,h6,h7⟩:=h
 refine ⟨dv,hd.kept hk,?_,?_,?_,?_,?_,?_,?_,?_⟩
 . first | exact hn | exact (hc 0 (by decide) (by decide)).trans h0
 . first | exact hn | exact (hc 1 (by decide) (by decide)).trans h1
 . first | exact hn | exact (hc 2 (by decide) (by decide)).trans h2
 . first | exact hn | exact (hc 3 (by decide) (by decide)).trans h3
 . first | exact hn | exact (hc 4 (by decide) (by decide)).trans h4
 . first | exact hn | exact (hc 5 (by decide) (by decide)).trans h5
 . first | exact hn | exact (hc 6 (by decide) (by decide)).trans h6
 . first | exact hn | exact (hc 7 (by decide) (by decide)).trans h7
theorem TrnE.setSrc {R:BP} {w w':World} {b o:Nat} {x:TrnD} {t} (h:TrnE R w b o x) (hk:Kept R w w') (hc:∀ j,j<8->j≠1->w'.cell? ⟨b,o+j,none⟩=w.cell? ⟨b,o+j,none⟩) (hn:w'.cell? ⟨b,o+1,none⟩=some (.int .i64 t)):TrnE R w' b o { x with src:=t }:=by
 obtain ⟨dv,hd,h0,h1,h2,h3,h4,h5,h6,h7⟩:=h
 refine ⟨dv,hd.kept hk,?_,?_,?_,?_,?_,?_,?_,?_⟩
 . first | exact hn | exact (hc 0 (by decide) (by decide)).trans h0
 . first | exact hn | exact (hc 1 (by decide) (by decide)).trans h1
 . first | exact hn | exact (hc 2 (by decide) (by decide)).trans h2
 . first | exact hn | exact (hc 3 (by decide) (by decide)).trans h3
 . first | exact hn | exact (hc 4 (by decide) (by decide)).trans h4
 . first | exact hn | exact (hc 5 (by decide) (by decide)).trans h5
 . first | exact hn | exact (hc 6 (by decide) (by decide)).trans h6
 . first | exact hn | exact (hc 7 (by decide) (by decide)).trans h7
theorem TrnE.setTgt {R:BP} {w w':World} {b o:Nat} {x:TrnD} {t} (h:TrnE R w b o x) (hk:Kept R w w') (hc:∀ j,j<8->j≠2->w'.cell? ⟨b,o+j,none⟩=w.cell? ⟨b,o+j,none⟩) (hn:w'.cell? ⟨b,o+2,none⟩=some (.int .i64 t)):TrnE R w' b o { x with tgt:=t }:=by
 obtain ⟨dv,hd,h0,h1,h2,h3,h4,h5,h6,h7⟩:=h
 refine ⟨dv,hd.kept hk,?_,?_,?_,?_,?_,?_,?_,?_⟩
 . first | exact hn | exact (hc 0 (by decide) (by decide)).trans h0
 . first | exact hn | exact (hc 1 (by decide) (by decide)).trans h1
 . first | exact hn | exact (hc 2 (by decide) (by decide)).trans h2
 . first | exact hn | exact (hc 3 (by decide) (by decide)).trans h3
 . first | exact hn | exact (hc 4 (by decide) (by decide)).trans h4
 . first | exact hn | exact (hc 5 (by decide) (by decide)).trans h5
 . first | exact hn | exact (hc 6 (by decide) (by decide)).trans h6
 . first | exact hn | exact (hc 7 (by decide) (by decide)).trans h7
theorem VerE.setKd {R:BP} {w w':World} {b o t:Nat} {x:VerD} (h:VerE R w b o x) (hk:Kept R w w') (hc:∀ j,j<8->j≠1->w'.cell? ⟨b,o+j,none⟩=w.cell? ⟨b,o+j,none⟩) (hn:w'.cell? ⟨b,o+1,none⟩=some (.int .u8 t)):VerE R w' b o { x with kd:=t }:=by
 obtain ⟨dv,hd,h0,h1,h2,h3,h4,h5,h6,h7⟩:=h
 exact ⟨dv,hd.kept hk,(hc 0 (by decide) (by decide)).trans h0,hn,(hc 2 (by decide) (by decide)).trans h2,(hc 3 (by decide) (by decide)).trans h3,(hc 4 (by decide) (by decide)).trans h4,(hc 5 (by decide) (by decide)).trans h5,(hc 6 (by decide) (by decide)).trans h6,(hc 7 (by decide) (by decide)).trans h7⟩
theorem cell_off {w:World} {b o k i sz d j:Nat} {u:Value} (hd:d<sz) (hj:j<sz) (h:¬ (i=k/\j=d)):(w.setCell ⟨b,o+k * sz+d,none⟩ u).cell? ⟨b,o+i * sz+j,none⟩=w.cell? ⟨b,o+i * sz+j,none⟩:=by
 refine World.cell?_setCell_other w _ _ u ?_
 intro e
 injection e with _ e2
 apply h
 have h1:k * sz+d=i * sz+j:=by omega
 have a1:(k * sz+d) / sz=k:=by rw [Nat.mul_comm,Nat.mul_add_div (by omega),Nat.div_eq_of_lt hd];rfl
 have a2:(i * sz+j) / sz=i:=by rw [Nat.mul_comm,Nat.mul_add_div (by omega),Nat.div_eq_of_lt hj];rfl
 have e3:k=i:=by rw [<- a1,h1,a2]
 subst e3
 exact ⟨rfl,by omega⟩
theorem Sl.aside {α:Type} {lo:Nat} {T T':TypeId} {R:BP} {sz:Nat} {E:World->Nat->Nat->α->Prop} (hE:Mono (TB lo T') R E) {w:World} {v:Value} {l:List α} (h:Sl (TB lo T') sz E w v l) {g o lo':Nat} {u:Value} (hg:TB lo' T g w.heap[g]?) (hT:T'≠T) (hr:Kept R w (w.setCell ⟨g,o,none⟩ u)):Sl (TB lo T') sz E (w.setCell ⟨g,o,none⟩ u) v l:=h.kept hE (Kept.other hg hT) hr
theorem SlS.aside {lo:Nat} {T T':TypeId} {w:World} {v:Value} {l:List ByteArray} (h:SlS (TB lo T') w v l) {g o lo':Nat} {u:Value} (hg:TB lo' T g w.heap[g]?) (hT:T'≠T):SlS (TB lo T') (w.setCell ⟨g,o,none⟩ u) v l:=h.kept (Kept.other hg hT)
theorem Own5.putV {lo:Nat} {m:MdlD} {r:Ph} {w:World} (h:Own5 lo m r w) (k:Nat) (f:VerD->VerD):Own5 lo { m with vers:=m.vers.modify k f } r w:=⟨h.o1,h.o2,h.o3,by show OwnV lo _ 8 w (.slice r.a4 (m.vers.modify k f).length r.c4);rw [List.length_modify];exact h.o4,h.o5⟩
theorem Own5.putT {lo:Nat} {m:MdlD} {r:Ph} {w:World} (h:Own5 lo m r w) (k:Nat) (f:TrnD->TrnD):Own5 lo { m with trns:=m.trns.modify k f } r w:=⟨h.o1,h.o2,h.o3,h.o4,by show OwnV lo _ 8 w (.slice r.a5 (m.trns.modify k f).length r.c5);rw [List.length_modify];exact h.o5⟩
theorem Own5.putR {lo:Nat} {m:MdlD} {r:Ph} {w:World} (h:Own5 lo m r w) (k:Nat) (f:RegD->RegD):Own5 lo { m with regs:=m.regs.modify k f } r w:=⟨h.o1,h.o2,by show OwnV lo _ 2 w (.slice r.a3 (m.regs.modify k f).length r.c3);rw [List.length_modify];exact h.o3,h.o4,h.o5⟩
theorem Sl.block {α:Type} {Q:BP} {sz:Nat} {E:World->Nat->Nat->α->Prop} {w:World} {a:Option Addr} {n c:Nat} {l:List α} (h:Sl Q sz E w (.slice a n c) l) {b o:Nat} (ha:a=some ⟨b,o,none⟩) (hl:0<l.length):b<w.heap.size/\Q b w.heap[b]? := by
 rcases h with ⟨_,_,hv,rfl⟩ | ⟨b',off,cap,hv,h0,h1,h2,h3⟩
 . simp at hl
 . simp only [Value.slice.injEq] at hv
   rw [ha] at hv
   simp only [Option.some.injEq,Addr.mk.injEq] at hv
   rw [hv.1.1]
   exact ⟨h1,h2⟩
theorem OwnM.verKd {lo:Nat} {w:World} {m:MdlD} {p:Ph} (h:OwnM lo w m p) {k b o:Nat} (ha:p.a4=some ⟨b,o,none⟩) (hk:k<m.vers.length) (t):OwnM lo (w.setCell ⟨b,o+k * 8+1,none⟩ (.int .u8 (t:Nat))) { m with vers:=m.vers.modify k fun x=>{ x with kd:=t } } p/\GrT lo (· = 49) w (w.setCell ⟨b,o+k * 8+1,none⟩ (.int .u8 (t:Nat))):=by
 obtain ⟨hb,hQ⟩:=h.mod.vers.block ha (by omega)
 have hQ':TB lo 49 b w.heap[b]? := hQ
 have hst:∀ lo',Kept (TB lo' 9) w (w.setCell ⟨b,o+k * 8+1,none⟩ (.int .u8 (t:Nat))):=fun lo'=>Kept.other hQ' (by decide)
 refine ⟨⟨⟨h.mod.vars.aside (VarE.mono (R:=TB lo 89)) hQ' (by decide) (Kept.other hQ' (by decide)),h.mod.evs.aside hQ' (by decide),h.mod.regs.aside (RegE.mono (R:=TB lo 57)) hQ' (by decide) (Kept.other hQ' (by decide)),?_,h.mod.trns.aside TrnE.mono hQ' (by decide) (hst _)⟩,(h.own.set _ _).putV k _⟩,GrT.set1 hQ' _⟩
 refine h.mod.vers.modify (by simp) (fun b' _ hq=>TB.set hq _ _) (fun b' o' i hi e hq hik he=>?_) fun b' o' hk e hq he=>?_
 . rw [ha] at e
   simp only [Option.some.injEq,Addr.mk.injEq] at e
   obtain ⟨rfl,rfl,_⟩:=e
   exact VerE.inn.keep he (fun j hj=>cell_off (by decide) hj (by omega)) (hst _) fun _ _ h=>h
 . rw [ha] at e
   simp only [Option.some.injEq,Addr.mk.injEq] at e
   obtain ⟨rfl,rfl,_⟩:=e
   refine VerE.setKd he (hst _) (fun j hj hjd=>cell_off (by decide) hj (by omega)) ?_
   obtain ⟨dv,hd,h0,h1,h2,h3,h4,h5,h6,h7⟩:=he
   first
     | exact World.cell?_setCell_same _ _ _ h1
theorem OwnM.verRg {lo:Nat} {w:World} {m:MdlD} {p:Ph} (h:OwnM lo w m p) {k b o:Nat} (ha:p.a4=some ⟨b,o,none⟩) (hk:k<m.vers.length) (t):OwnM lo (w.setCell ⟨b,o+k * 8+2,none⟩ (.int .i64 t)) { m with vers:=m.vers.modify k fun x=>{ x with rg:=t } } p/\GrT lo (· = 49) w (w.setCell ⟨b,o+k * 8+2,none⟩ (.int .i64 t)):=by
 obtain ⟨hb,hQ⟩:=h.mod.vers.block ha (by omega)
 have hQ':TB lo 49 b w.heap[b]? := hQ
 have hst:∀ lo',Kept (TB lo' 9) w (w.setCell ⟨b,o+k * 8+2,none⟩ (.int .i64 t)):=fun lo'=>Kept.other hQ' (by decide)
 refine ⟨⟨⟨h.mod.vars.aside (VarE.mono (R:=TB lo 89)) hQ' (by decide) (Kept.other hQ' (by decide)),h.mod.evs.aside hQ' (by decide),h.mod.regs.aside (RegE.mono (R:=TB lo 57)) hQ' (by decide) (Kept.other hQ' (by decide)),?_,h.mod.trns.aside TrnE.mono hQ' (by decide) (hst _)⟩,(h.own.set _ _).putV k _⟩,GrT.set1 hQ' _⟩
 refine h.mod.vers.modify (by simp) (fun b' _ hq=>TB.set hq _ _) (fun b' o' i hi e hq hik he=>?_) fun b' o' hk e hq he=>?_
 . rw [ha] at e
   simp only [Option.some.injEq,Addr.mk.injEq] at e
   obtain ⟨rfl,rfl,_⟩:=e
   exact VerE.inn.keep he (fun j hj=>cell_off (by decide) hj (by omega)) (hst _) fun _ _ h=>h
 . rw [ha] at e
   simp only [Option.some.injEq,Addr.mk.injEq] at e
   obtain ⟨rfl,rfl,_⟩:=e
   refine VerE.setRg he (hst _) (fun j hj hjd=>cell_off (by decide) hj (by omega)) ?_
   obtain ⟨dv,hd,h0,h1,h2,h3,h4,h5,h6,h7⟩:=he
   first
     | exact World.cell?_setCell_same _ _ _ h2
theorem OwnM.verOfv {lo:Nat} {w:World} {m:MdlD} {p:Ph} (h:OwnM lo w m p) {k b o:Nat} (ha:p.a4=some ⟨b,o,none⟩) (hk:k<m.vers.length) (t):OwnM lo (w.setCell ⟨b,o+k * 8+3,none⟩ (.int .i64 t)) { m with vers:=m.vers.modify k fun x=>{ x with ofv:=t } } p/\GrT lo (· = 49) w (w.setCell ⟨b,o+k * 8+3,none⟩ (.int .i64 t)):=by
 obtain ⟨hb,hQ⟩:=h.mod.vers.block ha (by omega)
 have hQ':TB lo 49 b w.heap[b]? := hQ
 have hst:∀ lo',Kept (TB lo' 9) w (w.setCell ⟨b,o+k * 8+3,none⟩ (.int .i64 t)):=fun lo'=>Kept.other hQ' (by decide)
 refine ⟨⟨⟨h.mod.vars.aside (VarE.mono (R:=TB lo 89)) hQ' (by decide) (Kept.other hQ' (by decide)),h.mod.evs.aside hQ' (by decide),h.mod.regs.aside (RegE.mono (R:=TB lo 57)) hQ' (by decide) (Kept.other hQ' (by decide)),?_,h.mod.trns.aside TrnE.mono hQ' (by decide) (hst _)⟩,(h.own.set _ _).putV k _⟩,GrT.set1 hQ' _⟩
 refine h.mod.vers.modify (by simp) (fun b' _ hq=>TB.set hq _ _) (fun b' o' i hi e hq hik he=>?_) fun b' o' hk e hq he=>?_
 . rw [ha] at e
   simp only [Option.some.injEq,Addr.mk.injEq] at e
   obtain ⟨rfl,rfl,_⟩:=e
   exact VerE.inn.keep he (fun j hj=>cell_off (by decide) hj (by omega)) (hst _) fun _ _ h=>h
 . rw [ha] at e
   simp only [Option.some.injEq,Addr.mk.injEq] at e
   obtain ⟨rfl,rfl,_⟩:=e
   refine VerE.setOfv he (hst _) (fun j hj hjd=>cell_off (by decide) hj (by omega)) ?_
   obtain ⟨dv,hd,h0,h1,h2,h3,h4,h5,h6,h7⟩:=he
   first
     | exact World.cell?_setCell_same _ _ _ h3
theorem OwnM.verSb {lo:Nat} {w:World} {m:MdlD} {p:Ph} (h:OwnM lo w m p) {k b o:Nat} (ha:p.a4=some ⟨b,o,none⟩) (hk:k<m.vers.length) (t):OwnM lo (w.setCell ⟨b,o+k * 8+7,none⟩ (.string t)) { m with vers:=m.vers.modify k fun x=>{ x with sb:=t } } p/\GrT lo (· = 49) w (w.setCell ⟨b,o+k * 8+7,none⟩ (.string t)):=by
 obtain ⟨hb,hQ⟩:=h.mod.vers.block ha (by omega)
 have hQ':TB lo 49 b w.heap[b]? := hQ
 have hst:∀ lo',Kept (TB lo' 9) w (w.setCell ⟨b,o+k * 8+7,none⟩ (.string t)):=fun lo'=>Kept.other hQ' (by decide)
 refine ⟨⟨⟨h.mod.vars.aside (VarE.mono (R:=TB lo 89)) hQ' (by decide) (Kept.other hQ' (by decide)),h.mod.evs.aside hQ' (by decide),h.mod.regs.aside (RegE.mono (R:=TB lo 57)) hQ' (by decide) (Kept.other hQ' (by decide)),?_,h.mod.trns.aside TrnE.mono hQ' (by decide) (hst _)⟩,(h.own.set _ _).putV k _⟩,GrT.set1 hQ' _⟩
 refine h.mod.vers.modify (by simp) (fun b' _ hq=>TB.set hq _ _) (fun b' o' i hi e hq hik he=>?_) fun b' o' hk e hq he=>?_
 . rw [ha] at e
   simp only [Option.some.injEq,Addr.mk.injEq] at e
   obtain ⟨rfl,rfl,_⟩:=e
   exact VerE.inn.keep he (fun j hj=>cell_off (by decide) hj (by omega)) (hst _) fun _ _ h=>h
 . rw [ha] at e
   simp only [Option.some.injEq,Addr.mk.injEq] at e
   obtain ⟨rfl,rfl,_⟩:=e
   refine VerE.setSb he (hst _) (fun j hj hjd=>cell_off (by decide) hj (by omega)) ?_
   obtain ⟨dv,hd,h0,h1,h2,h3,h4,h5,h6,h7⟩:=he
   first
     | exact World.cell?_setCell_same _ _ _ h7
theorem OwnM.trnSrc {lo:Nat} {w:World} {m:MdlD} {p:Ph} (h:OwnM lo w m p) {k b o:Nat} (ha:p.a5=some ⟨b,o,none⟩) (hk:k<m.trns.length) (t):OwnM lo (w.setCell ⟨b,o+k * 8+1,none⟩ (.int .i64 t)) { m with trns:=m.trns.modify k fun x=>{ x with src:=t } } p/\GrT lo (· = 59) w (w.setCell ⟨b,o+k * 8+1,none⟩ (.int .i64 t)):=by
 obtain ⟨hb,hQ⟩:=h.mod.trns.block ha (by omega)
 have hQ':TB lo 59 b w.heap[b]? := hQ
 have hst:∀ lo',Kept (TB lo' 9) w (w.setCell ⟨b,o+k * 8+1,none⟩ (.int .i64 t)):=fun lo'=>Kept.other hQ' (by decide)
 refine ⟨⟨⟨h.mod.vars.aside (VarE.mono (R:=TB lo 89)) hQ' (by decide) (Kept.other hQ' (by decide)),h.mod.evs.aside hQ' (by decide),h.mod.regs.aside (RegE.mono (R:=TB lo 57)) hQ' (by decide) (Kept.other hQ' (by decide)),h.mod.vers.aside VerE.mono hQ' (by decide) (hst _),?_⟩,(h.own.set _ _).putT k _⟩,GrT.set1 hQ' _⟩
 refine h.mod.trns.modify (by simp) (fun b' _ hq=>TB.set hq _ _) (fun b' o' i hi e hq hik he=>?_) fun b' o' hk e hq he=>?_
 . rw [ha] at e
   simp only [Option.some.injEq,Addr.mk.injEq] at e
   obtain ⟨rfl,rfl,_⟩:=e
   exact TrnE.inn.keep he (fun j hj=>cell_off (by decide) hj (by omega)) (hst _) fun _ _ h=>h
 . rw [ha] at e
   simp only [Option.some.injEq,Addr.mk.injEq] at e
   obtain ⟨rfl,rfl,_⟩:=e
   refine TrnE.setSrc he (hst _) (fun j hj hjd=>cell_off (by decide) hj (by omega)) ?_
   obtain ⟨dv,hd,h0,h1,h2,h3,h4,h5,h6,h7⟩:=he
   first
     | exact World.cell?_setCell_same _ _ _ h1
theorem OwnM.trnTgt {lo:Nat} {w:World} {m:MdlD} {p:Ph} (h:OwnM lo w m p) {k b o:Nat} (ha:p.a5=some ⟨b,o,none⟩) (hk:k<m.trns.length) (t):OwnM lo (w.setCell ⟨b,o+k * 8+2,none⟩ (.int .i64 t)) { m with trns:=m.trns.modify k fun x=>{ x with tgt:=t } } p/\GrT lo (· = 59) w (w.setCell ⟨b,o+k * 8+2,none⟩ (.int .i64 t)):=by
 obtain ⟨hb,hQ⟩:=h.mod.trns.block ha (by omega)
 have hQ':TB lo 59 b w.heap[b]? := hQ
 have hst:∀ lo',Kept (TB lo' 9) w (w.setCell ⟨b,o+k * 8+2,none⟩ (.int .i64 t)):=fun lo'=>Kept.other hQ' (by decide)
 refine ⟨⟨⟨h.mod.vars.aside (VarE.mono (R:=TB lo 89)) hQ' (by decide) (Kept.other hQ' (by decide)),h.mod.evs.aside hQ' (by decide),h.mod.regs.aside (RegE.mono (R:=TB lo 57)) hQ' (by decide) (Kept.other hQ' (by decide)),h.mod.vers.aside VerE.mono hQ' (by decide) (hst _),?_⟩,(h.own.set _ _).putT k _⟩,GrT.set1 hQ' _⟩
 refine h.mod.trns.modify (by simp) (fun b' _ hq=>TB.set hq _ _) (fun b' o' i hi e hq hik he=>?_) fun b' o' hk e hq he=>?_
 . rw [ha] at e
   simp only [Option.some.injEq,Addr.mk.injEq] at e
   obtain ⟨rfl,rfl,_⟩:=e
   exact TrnE.inn.keep he (fun j hj=>cell_off (by decide) hj (by omega)) (hst _) fun _ _ h=>h
 . rw [ha] at e
   simp only [Option.some.injEq,Addr.mk.injEq] at e
   obtain ⟨rfl,rfl,_⟩:=e
   refine TrnE.setTgt he (hst _) (fun j hj hjd=>cell_off (by decide) hj (by omega)) ?_
   obtain ⟨dv,hd,h0,h1,h2,h3,h4,h5,h6,h7⟩:=he
   first
     | exact World.cell?_setCell_same _ _ _ h2
theorem OwnM.regOwn {lo:Nat} {w:World} {m:MdlD} {p:Ph} (h:OwnM lo w m p) {k b o:Nat} (ha:p.a3=some ⟨b,o,none⟩) (hk:k<m.regs.length) (t):OwnM lo (w.setCell ⟨b,o+k * 2+1,none⟩ (.int .i64 t)) { m with regs:=m.regs.modify k fun x=>{ x with own:=t } } p/\GrT lo (· = 57) w (w.setCell ⟨b,o+k * 2+1,none⟩ (.int .i64 t)):=by
 obtain ⟨hb,hQ⟩:=h.mod.regs.block ha (by omega)
 have hQ':TB lo 57 b w.heap[b]? := hQ
 have hst:∀ lo',Kept (TB lo' 9) w (w.setCell ⟨b,o+k * 2+1,none⟩ (.int .i64 t)):=fun lo'=>Kept.other hQ' (by decide)
 refine ⟨⟨⟨h.mod.vars.aside (VarE.mono (R:=TB lo 89)) hQ' (by decide) (Kept.other hQ' (by decide)),h.mod.evs.aside hQ' (by decide),?_,h.mod.vers.aside VerE.mono hQ' (by decide) (hst _),h.mod.trns.aside TrnE.mono hQ' (by decide) (hst _)⟩,(h.own.set _ _).putR k _⟩,GrT.set1 hQ' _⟩
 refine h.mod.regs.modify (by simp) (fun b' _ hq=>TB.set hq _ _) (fun b' o' i hi e hq hik he=>?_) fun b' o' hk e hq he=>?_
 . rw [ha] at e
   simp only [Option.some.injEq,Addr.mk.injEq] at e
   obtain ⟨rfl,rfl,_⟩:=e
   exact ⟨(cell_off (j:=0) (by decide) (by decide) (by omega)).trans he.1,(cell_off (j:=1) (by decide) (by decide) (by omega)).trans he.2⟩
 . rw [ha] at e
   simp only [Option.some.injEq,Addr.mk.injEq] at e
   obtain ⟨rfl,rfl,_⟩:=e
   exact ⟨(cell_off (j:=0) (by decide) (by decide) (by omega)).trans he.1,World.cell?_setCell_same _ _ _ he.2⟩
def upTo {α:Type} (f:α->α) (k:Nat) (l:List α):List α:=(l.take k).map f ++ l.drop k
theorem upTo_zero {α:Type} (f:α->α) (l:List α):upTo f 0 l=l:=by simp [upTo]
theorem upTo_len {α:Type} (f:α->α) (k:Nat) (l:List α):(upTo f k l).length=l.length:=by simp [upTo];omega
theorem upTo_all {α:Type} (f:α->α) (l:List α):upTo f l.length l=l.map f:=by simp [upTo]
theorem upTo_at {α:Type} {f:α->α} {k:Nat} {l:List α} {i:Nat} (hi:i<l.length):(upTo f k l)[i]'(by rw [upTo_len];exact hi)=if i<k then f l[i] else l[i]:=by
 unfold upTo
 by_cases h:i<k
 . rw [if_pos h,List.getElem_append_left (by simp;omega)]
   simp
 . rw [if_neg h,List.getElem_append_right (by simp;omega)]
   simp only [List.length_map,List.length_take,List.getElem_drop]
   congr 1
   omega
theorem upTo_step {α:Type} {f g:α->α} {k:Nat} {l:List α} (hk:k<l.length) (hg:g l[k]=f l[k]):(upTo f k l).modify k g=upTo f (k+1) l:=by
 refine List.ext_getElem (by rw [List.length_modify,upTo_len,upTo_len]) fun i h1 h2=>?_
 have hi:i<l.length:=by rw [upTo_len] at h2;exact h2
 rw [List.getElem_modify,upTo_at hi,upTo_at hi]
 split
 . rename_i e
   subst e
   rw [if_neg (by omega),if_pos (by omega),hg]
 . split
   . rw [if_pos (by omega)]
   . rw [if_neg (by omega)]
theorem upTo_step2 {α:Type} {f g h:α->α} {k:Nat} {l:List α} (hk:k<l.length) (hg:h (g l[k])=f l[k]):((upTo f k l).modify k g).modify k h=upTo f (k+1) l:=by
 refine List.ext_getElem (by rw [List.length_modify,List.length_modify,upTo_len,upTo_len]) fun i h1 h2=>?_
 have hi:i<l.length:=by rw [upTo_len] at h2;exact h2
 rw [List.getElem_modify,List.getElem_modify,upTo_at hi,upTo_at hi]
 split
 . rename_i e
   subst e
   rw [if_neg (by omega),if_pos (by omega),hg]
 . split
   . rw [if_pos (by omega)]
   . rw [if_neg (by omega)]
end Go.Proofs
