/- Where a history leads: plain. -/
import Derived.Test.YtfladiadgkfebaaGreatDoorKIxAY
namespace Go.Md
open Go.RowKit Go.Lx Go.Proofs
set_option linter.unusedVariables false
theorem lies_at {m:MdlD} (h0:riM m=(0,0,0)) {k:Nat} (hk:k<m.vers.length):liesM m m.vers[k]=true:=by
 have h5:=(riM_zero.1 h0).2.2.2.2.1
 have hr:=((wrL_zero (by decide)).1 h5 k hk).1
 unfold rVer at hr
 simp only [Bool.and_eq_true] at hr
 exact hr.1.1.1.1.1.2
theorem point_at {m:MdlD} (h0:riM m=(0,0,0)) {k:Nat} (hk:k<m.vers.length) (h:0<=m.vers[k].ofv):m.vers[k].rg=-1/\(m.vers[k].kd=10\/m.vers[k].kd=11):=by
 have hl:=lies_at h0 hk
 unfold liesM at hl
 split at hl
 . rename_i hq
   simp only [Bool.and_eq_true,beq_iff_eq] at hl
   exact ⟨hl.1,hq⟩
 . simp only [Bool.and_eq_true,beq_iff_eq] at hl
   have:=hl.1.1;omega
end Go.Md

namespace Go.Proofs
open Go.RowKit Go.Lx Go.Md Go.Shelf Go.BigFrame
set_option linter.unusedVariables false
theorem boxT (w:World) (m:MdlD) (p:Ph) (T:TypeId):Box (w.alloc (.cells #[.string m.nm,.slice p.a1 m.vars.length p.c1,.slice p.a2 m.evs.length p.c2,.slice p.a3 m.regs.length p.c3,.slice p.a4 m.vers.length p.c4,.slice p.a5 m.trns.length p.c5] T)) w.heap.size (.string m.nm) (.slice p.a1 m.vars.length p.c1) (.slice p.a2 m.evs.length p.c2) (.slice p.a3 m.regs.length p.c3) (.slice p.a4 m.vers.length p.c4) (.slice p.a5 m.trns.length p.c5):=by
 constructor <;> simp
structure Mb (m:MdlD) (p:Ph) (H:Nat) (w wx:World):Prop where
 bel:Bl w wx
 mod:Mod (fun _=>OldB w.heap.size) wx m p
 box:Box wx H (.string m.nm) (.slice p.a1 m.vars.length p.c1) (.slice p.a2 m.evs.length p.c2) (.slice p.a3 m.regs.length p.c3) (.slice p.a4 m.vers.length p.c4) (.slice p.a5 m.trns.length p.c5)
theorem Mb.below {m:MdlD} {p:Ph} {H:Nat} {w wx wy:World} (h:Mb m p H w wx) (g:Bl wx wy):Mb m p H w wy:=⟨h.bel.trans (g.mono h.bel.size),h.mod.below g,h.box.below g h.box.sl⟩
theorem Mb.made {Q:Nat->BP} {m:MdlD} {p:Ph} {w:World} (h:Mod Q w m p):Mb m p w.heap.size w (w.alloc (.cells #[.string m.nm,.slice p.a1 m.vars.length p.c1,.slice p.a2 m.evs.length p.c2,.slice p.a3 m.regs.length p.c3,.slice p.a4 m.vers.length p.c4,.slice p.a5 m.trns.length p.c5] 42)) :=
 ⟨below_al1 w _,(h.weaken fun _ _ h _=>h).below (below_al1 w _),box6 w m p⟩
theorem Mb.madeT {Q:Nat->BP} {m:MdlD} {p:Ph} {w:World} (h:Mod Q w m p) (T:TypeId):Mb m p w.heap.size w (w.alloc (.cells #[.string m.nm,.slice p.a1 m.vars.length p.c1,.slice p.a2 m.evs.length p.c2,.slice p.a3 m.regs.length p.c3,.slice p.a4 m.vers.length p.c4,.slice p.a5 m.trns.length p.c5] T)) :=
 ⟨below_al1 w _,(h.weaken fun _ _ h _=>h).below (below_al1 w _),boxT w m p T⟩
def Nxt (v v':Value) (n:Nat):Prop:=v'.ownBlock=v.ownBlock\/∀ g,v'.ownBlock=some g->n<=g
theorem Nxt.refl (v:Value) (n:Nat):Nxt v v n:=.inl rfl
theorem Nxt.trans {a b c:Value} {n n':Nat} (h:Nxt a b n) (k:Nxt b c n') (hn:n<=n'):Nxt a c n:=by
 rcases k with k | k
 . rcases h with h | h
   . exact .inl (k.trans h)
   . exact .inr fun g hg=>h g (by rw [<- k];exact hg)
 . exact .inr fun g hg=>Nat.le_trans hn (k g hg)
theorem Mb.set {m:MdlD} {p:Ph} {H g k:Nat} {w wx:World} (h:Mb m p H w wx) (hg:H<g) (hH:w.heap.size<=H) (u:Value):Mb m p H w (wx.setCell ⟨g,k,none⟩ u) :=
 ⟨h.bel.setCell (p:=⟨g,k,none⟩) (by simp only;omega) u,h.mod.kept fun j=>Kept.setCell fun o ho=>by have:g<w.heap.size:=ho;omega,h.box.far u (by simp only;omega)⟩
theorem ownsRow_slice {N T n:Nat} {w:World} {v:Value} {xs:List Value} (h:w.ownsRow N T 1 v n xs):∃ a c,v=.slice a n c:=by
 rcases h.2 with ⟨e,h0⟩ | ⟨g,cap,_,e,_⟩
 . exact ⟨none,0,by rw [e,h0]⟩
 . exact ⟨_,_,e⟩
end Go.Proofs

namespace Go.Proofs
open Go.RowKit Go.Lx Go.Md Go.Shelf
set_option linter.unusedVariables false
section
variable {P:Program}
theorem run_append_nils (w:World) (base:Nat) (t ty e:TypeId) (i:TypeInfo) (size:Nat) (ht:P.underlying t=some (.slice e)) (hi:P.info? e=some i) (v:Value) (n:Nat) (xs:List Value) (hown:w.ownsRow base e size v n xs) (c:Nat) :
   (Builtin.append_ #[t,t] ty #[v,.slice none 0 c]).run P w=.ok v w:=by
 rcases hown.2 with ⟨rfl,rfl⟩ | ⟨g,cap,cur,rfl,_,_,hnc,_⟩
 . simp [Builtin.append_,run_underlying ht,sizeOf,typeInfo,hi,Builtin.lenOf,Builtin.firstCells]
 . simp [Builtin.append_,run_underlying ht,sizeOf,typeInfo,hi,Builtin.lenOf,Builtin.firstCells,hnc,storeCells]
theorem nums_one (l:List Int):∀ u ∈ nums l,u.oneCell'=true:=fun u hu=>by
 simp only [nums,List.mem_map] at hu
 obtain ⟨x,_,rfl⟩:=hu
 rfl
theorem run_append_row (w:World) (t ty e:TypeId) (N:Nat) (i:TypeInfo) (z:Value) (ht:P.underlying t=some (.slice e)) (hi:P.info? e=some i) (hz:i.zero=some z) (hsize:i.size=1) (hby:i.bytes=8) (hzs:z.cells.size=1)
   (v:Value) (l:List Int) (hown:w.ownsRow N e 1 v l.length (nums l)) (xv:Value) (r:List Int) (hr:RowIn w xv r) (h63:l.length+r.length<=1000000) (hN:N<=w.heap.size) :
   ∃ v' w',(Builtin.append_ #[t,t] ty #[v,xv]).run P w=.ok v' w'/\w'.ownsRow N e 1 v' (l ++ r).length (nums (l ++ r))/\w.grownBy w' v.ownBlock/\Nxt v v' w.heap.size:=by
 have key:∀ (ad:Addr) (c:Nat),xv=.slice (some ad) r.length c->(∀ j u,(nums r)[j]? = some u->w.cell? (ad.add j)=some u)->∃ v' w',(Builtin.append_ #[t,t] ty #[v,xv]).run P w=.ok v' w'/\w'.ownsRow N e 1 v' (l ++ r).length (nums (l ++ r))/\w.grownBy w' v.ownBlock/\Nxt v v' w.heap.size:=by
   rintro ad c rfl hcs
   obtain ⟨v',w',h1,h2,h3,_,h5⟩:=run_append_own_at (P:=P) w N t ty e i z 1 8 ht hi hz hsize hby hzs (by decide) v l.length (nums l) hown ad r.length c (nums r) (by simp [nums]) hcs (nums_one r) (by unfold maxLen;omega) (by omega) hN
   refine ⟨v',w',h1,?_,h3,?_⟩
   . rw [List.length_append,show nums (l ++ r)=nums l ++ nums r by simp [nums]];exact h2
   . rcases h5 with h5 | h5
     . exact .inl h5
     . exact .inr fun g hg=>by rw [h5] at hg;injection hg with hg;omega
 rcases hr with ⟨a,c,rfl,rfl⟩ | ⟨b,off,c,rfl,hc,hb,hcs⟩
 . cases a with
   | none=>exact ⟨v,w,run_append_nils w N t ty e i 1 ht hi v _ _ hown c,by rw [List.append_nil];exact hown,⟨rfl,rfl,rfl,Nat.le_refl _,fun _ _ _=>rfl⟩,Nxt.refl _ _⟩
   | some ad=>exact key ad c rfl (fun j u hj=>by simp [nums] at hj)
 . exact key _ c rfl hcs
theorem wpList_append_row (w:World) {ops:Array Oper} {rest:List Oper} {o:Oper} {a:Act} {Q:Exit->Act->World->Prop} (hgd:o.guard=none) (s x:Operand) (t:TypeId)
   (ho:o.op=.call { callee:=.builtin .append,args:=#[s,x],argTypes:=#[t,t] }) (e:TypeId) (N:Nat) (i:TypeInfo) (z:Value) (ht:P.underlying t=some (.slice e)) (hi:P.info? e=some i) (hz:i.zero=some z) (hsize:i.size=1) (hby:i.bytes=8) (hzs:z.cells.size=1)
   (v:Value) (l:List Int) (hs:a.eval s=v) (hown:w.ownsRow N e 1 v l.length (nums l)) (xv:Value) (r:List Int) (hx:a.eval x=xv) (hr:RowIn w xv r) (h63:l.length+r.length<=1000000) (hN:N<=w.heap.size)
   (h:∀ v' w',w'.ownsRow N e 1 v' (l ++ r).length (nums (l ++ r))->w.grownBy w' v.ownBlock->Nxt v v' w.heap.size->wpList P ops Q rest (a.put o.dst v') w'):wpList P ops Q (o :: rest) a w:=by
 refine wpList_plain hgd fun K hK=>?_
 obtain ⟨v',w',h1,h2,h3,h4⟩:=run_append_row (P:=P) w t o.type e N i z ht hi hz hsize hby hzs v l hown xv r hr h63 hN
 unfold Oper.wp execOp
 simp only [ho,resolve,invoke,builtin,Sem.run_bind,Sem.run_pure,Result.andThen_ok,List.map_toArray,List.map_cons,List.map_nil,hs,hx,h1]
 exact hK _ _ (h v' w' h2 h3 h4)
end
theorem row1 (w:World) (x:Int) (T:TypeId):RowIn (w.alloc (.cells #[.int .i64 x] T)) (.slice (some ⟨w.heap.size,0,none⟩) 1 1) [x] :=
 .inr ⟨w.heap.size,0,1,rfl,by simp,by simp,fun j u hj=>by
   rw [addr_add]
   cases j with
   | zero=>simp [nums] at hj;subst hj;simp
   | succ j=>simp [nums] at hj⟩
end Go.Proofs
