/- Walks: 'machine' of law 18. -/
import Derived.Test.YtfladiadgkfebaaGreatDoorKEmLM
namespace Go.Proofs
open Go.RowKit Go.Lx Go.Md Go.Shelf Go.BigFrame Go.Rgi
open Lib(hid)
set_option maxRecDepth 100000
set_option maxHeartbeats 0
set_option linter.unusedVariables false
structure MaS (H:Nat) (m:MdlD) (p:Ph) (w0 w:World):Prop where
 own:OwnM w0.heap.size w m p
 mb:w.heap[H]? = some (mBox m p)
 zb:w.heap[w0.heap.size]? = some zeroM
 bel:Below w0.heap.size w0 w
 hH:w0.heap.size<H
theorem MaS.lt {H:Nat} {m:MdlD} {p:Ph} {w0 w:World} (h:MaS H m p w0 w):H<w.heap.size:=(Array.getElem?_eq_some_iff.1 h.mb).1
theorem MaS.below {H:Nat} {m:MdlD} {p:Ph} {w0 w w':World} (h:MaS H m p w0 w) (g:Below w.heap.size w w'):MaS H m p w0 w' :=
 have h1:=h.lt
 have h2:=h.hH
 ⟨h.own.below g,(g.block _ h1).trans h.mb,(g.block _ (by omega)).trans h.zb,h.bel.trans (g.mono h.bel.size),h.hH⟩
theorem MaS.push {H:Nat} {m:MdlD} {p:Ph} {R:List VerD} {w0 w w':World} {a:Option Addr} {c:Nat} (h:MaS H m p w0 w) (g:GrT w0.heap.size (· = 49) w w') (ho:OwnV w0.heap.size 49 8 w' (.slice a (m.vers ++ R).length c)) (hs:Sl (TB w0.heap.size 49) 8 (VerE (TB w0.heap.size 9)) w' (.slice a (m.vers ++ R).length c) (m.vers ++ R)) :
   MaS H { m with vers:=m.vers ++ R } { p with a4:=a,c4:=c } w0 (w'.setCell ⟨H,4,none⟩ (.slice a (m.vers ++ R).length c)):=by
 have hm:w'.heap[H]? = some (mBox m p):=g.same h.mb (by decide)
 have hat:AtB H w' (w'.setCell ⟨H,4,none⟩ (.slice a (m.vers ++ R).length c)):=(AtB.refl _ w').set _ _
 have h2:=h.hH
 refine ⟨(h.own.app4 g ho hs).kept fun j=>hat.keptT hm (TT_ne j),mBox.set4 hm _ _ _,(hat.block _ (by omega)).trans (g.same h.zb (by decide)),(h.bel.trans (g.below (Nat.le_refl _) h.bel.size)).trans (hat.below (by omega)),h.hH⟩
theorem MaS.trns {H:Nat} {m:MdlD} {p:Ph} {R:List TrnD} {w0 w:World} {a:Option Addr} {c:Nat} (h:MaS H m p w0 w) (ho:OwnV w0.heap.size 59 8 w (.slice a R.length c)) (hs:Sl (TB w0.heap.size 59) 8 (TrnE (TB w0.heap.size 9)) w (.slice a R.length c) R) :
   MaS H { m with trns:=R } { p with a5:=a,c5:=c } w0 (w.setCell ⟨H,5,none⟩ (.slice a R.length c)):=by
 have hat:AtB H w (w.setCell ⟨H,5,none⟩ (.slice a R.length c)):=(AtB.refl _ w).set _ _
 have h2:=h.hH
 have hw:OwnM w0.heap.size w { m with trns:=R } { p with a5:=a,c5:=c }:=⟨⟨h.own.mod.vars,h.own.mod.evs,h.own.mod.regs,h.own.mod.vers,hs⟩,⟨h.own.own.o1,h.own.own.o2,h.own.own.o3,h.own.own.o4,ho⟩⟩
 exact ⟨hw.kept fun j=>hat.keptT h.mb (TT_ne j),mBox.set5 h.mb _ _ _,(hat.block _ (by omega)).trans h.zb,h.bel.trans (hat.below (by omega)),h.hH⟩
theorem sl_blk {α:Type} {E:World->Nat->Nat->α->Prop} {w:World} {g lo sz:Nat} {T:TypeId} {cur:Array Value} (hg:w.heap[g]? = some (.cells cur T (0,0))) (hlo:lo<=g) {l:List α} (he:∀ i (h:i<l.length),E w g (0+i * sz) l[i]):Sl (TB lo T) sz E w (.slice (some ⟨g,0,none⟩) l.length l.length) l :=
 .inr ⟨g,0,l.length,rfl,Nat.le_refl _,(Array.getElem?_eq_some_iff.1 hg).1,⟨hlo,cur,hg⟩,he⟩
theorem own_blk {w:World} {g lo sz n:Nat} {T:TypeId} {cur:Array Value} (hg:w.heap[g]? = some (.cells cur T (0,0))) (hlo:lo<=g) (hs:cur.size=n * sz) (hn:n<=1000):OwnV lo T sz w (.slice (some ⟨g,0,none⟩) n n) :=
 .inr ⟨g,n,n,cur,rfl,hlo,hg,Nat.le_refl _,by unfold maxLen;omega,hs⟩
theorem cell_row {w:World} {g k:Nat} {T:TypeId} {cur:Array Value} {fr:Nat × Nat} (hg:w.heap[g]? = some (.cells cur T fr)):w.cell? ⟨g,k,none⟩=cur[k]? := by
 unfold World.cell?
 simp [hg]
theorem objs6 (w:World) (a b c d e f:Obj):((((((w.alloc a).alloc b).alloc c).alloc d).alloc e).alloc f).heap[w.heap.size]? = some a/\((((((w.alloc a).alloc b).alloc c).alloc d).alloc e).alloc f).heap[w.heap.size+1]? = some b/\((((((w.alloc a).alloc b).alloc c).alloc d).alloc e).alloc f).heap[w.heap.size+1+1]? = some c/\((((((w.alloc a).alloc b).alloc c).alloc d).alloc e).alloc f).heap[w.heap.size+1+1+1]? = some d /\
   ((((((w.alloc a).alloc b).alloc c).alloc d).alloc e).alloc f).heap[w.heap.size+1+1+1+1]? = some e/\((((((w.alloc a).alloc b).alloc c).alloc d).alloc e).alloc f).heap[w.heap.size+1+1+1+1+1]? = some f/\Below w.heap.size w ((((((w.alloc a).alloc b).alloc c).alloc d).alloc e).alloc f):=by
 have h:=below_al1 w a
 have k:∀ (w1:World) (o:Obj) (b':Nat),b'<w1.heap.size->(w1.alloc o).heap[b']? = w1.heap[b']? := fun w1 o b' hb=>Below.heap_alloc _ _ _ hb
 refine ⟨?_,?_,?_,?_,?_,?_,?_⟩
 . rw [k _ f _ (by simp <;> omega),k _ e _ (by simp <;> omega),k _ d _ (by simp <;> omega),k _ c _ (by simp <;> omega),k _ b _ (by simp),World.alloc_heap_new]
 . rw [k _ f _ (by simp <;> omega),k _ e _ (by simp <;> omega),k _ d _ (by simp <;> omega),k _ c _ (by simp)];exact World.alloc_heap_new (w.alloc a) b |>.symm ▸ (by simp)
 . rw [k _ f _ (by simp <;> omega),k _ e _ (by simp <;> omega),k _ d _ (by simp)];have:=World.alloc_heap_new ((w.alloc a).alloc b) c;simpa using this
 . rw [k _ f _ (by simp <;> omega),k _ e _ (by simp)];have:=World.alloc_heap_new (((w.alloc a).alloc b).alloc c) d;simpa using this
 . rw [k _ f _ (by simp)];have:=World.alloc_heap_new ((((w.alloc a).alloc b).alloc c).alloc d) e;simpa using this
 . have:=World.alloc_heap_new (((((w.alloc a).alloc b).alloc c).alloc d).alloc e) f;simpa using this
 . exact (((((h.alloc (by simp) b).alloc (by simp <;> omega) c).alloc (by simp <;> omega) d).alloc (by simp <;> omega) e).alloc (by simp <;> omega) f)
section
variable {P:Program}
theorem step_append_sl {α:Type} {Q2:BP} {sz lo:Nat} {E:World->Nat->Nat->α->Prop} {Kp:World->World->Prop} (hE:Moves sz E Kp) (w:World) {ops:Array Oper} {o:Oper} {ac:Act} {K:Act->World->Prop} {Q:Exit->Act->World->Prop} {EE:Prop} (hgd:o.guard=none) (s x:Operand) (t:TypeId)
   (ho:o.op=.call { callee:=.builtin .append,args:=#[s,x],argTypes:=#[t,t] }) (e:TypeId) (i:TypeInfo) (z:Value) (bytes:Nat) (ht:P.underlying t=some (.slice e)) (hi:P.info? e=some i) (hz:i.zero=some z)
   (hsize:i.size=sz) (hby:i.bytes=bytes) (hzs:z.cells.size=sz) (hsz:0<sz) (hb:bytes<=1000) {a a2:Option Addr} {c c2:Nat} {l r:List α} (hs:ac.eval s=.slice a l.length c) (hx:ac.eval x=.slice a2 r.length c2) (hl:Sl (TB lo e) sz E w (.slice a l.length c) l) (hw:OwnV lo e sz w (.slice a l.length c)) (hr:Sl Q2 sz E w (.slice a2 r.length c2) r) (hn:l.length+r.length<=1000000) (hlo:lo<=w.heap.size)
   (h:∀ a' c' w',OwnV lo e sz w' (.slice a' (l ++ r).length c')->GrT lo (· = e) w w'->(Kp w w'->Sl (TB lo e) sz E w' (.slice a' (l ++ r).length c') (l ++ r))->K (ac.put o.dst (.slice a' (l ++ r).length c')) w'):if Region.wanted o (yielded ops ac.tmps)=true then Oper.wp P o ac w K Q else EE:=by
 have hw':Region.wanted o (yielded ops ac.tmps)=true:=by simp [Region.wanted,hgd]
 rw [if_pos hw']
 obtain ⟨a',c',w',h1,h2,h3,h4⟩:=run_append_sl (P:=P) hE w t o.type e i z bytes ht hi hz hsize hby hzs hsz hb hl hw hr hn hlo
 unfold Oper.wp execOp
 simp only [ho,resolve,invoke,builtin,Sem.run_bind,Sem.run_pure,Result.andThen_ok,List.map_toArray,List.map_cons,List.map_nil,hs,hx,h1]
 exact h a' c' w' h2 h3 h4
end
theorem ver_one (R:BP) (w:World) (x:VerD) (a:Option Addr) (c:Nat) (T:TypeId) (hd:SlS R (w.alloc (.cells #[.string x.nm,.int .u8 x.kd,.int .i64 x.rg,.int .i64 x.ofv,.string x.en,.string x.ex,.slice a x.df.length c,.string x.sb] T)) (.slice a x.df.length c) x.df):Sl anyB 8 (VerE R) (w.alloc (.cells #[.string x.nm,.int .u8 x.kd,.int .i64 x.rg,.int .i64 x.ofv,.string x.en,.string x.ex,.slice a x.df.length c,.string x.sb] T)) (.slice (some ⟨w.heap.size,0,none⟩) [x].length 1) [x]:=by
 refine .inr ⟨w.heap.size,0,1,rfl,by simp,by simp,trivial,fun i hi=>?_⟩
 obtain rfl:i=0:=by simp at hi;exact hi
 obtain ⟨z0,z1,z2,z3,z4,z5,z6,z7⟩:=cells8 (World.alloc_heap_new w (.cells #[.string x.nm,.int .u8 x.kd,.int .i64 x.rg,.int .i64 x.ofv,.string x.en,.string x.ex,.slice a x.df.length c,.string x.sb] T))
 exact ⟨_,hd,z0,z1,z2,z3,z4,z5,z6,z7⟩
def mach0 (nm:ByteArray):MdlD:=⟨nm,[⟨⟨#[110]⟩,2⟩,⟨⟨#[118]⟩ ++ nm,0⟩],[⟨#[103,111]⟩,⟨#[101]⟩ ++ nm],[⟨⟨#[116,111,112]⟩,-1⟩],[vIni],[]⟩
def mphs (H:Nat):Ph:=⟨some ⟨H+1,0,none⟩,2,some ⟨H+1+1,0,none⟩,2,some ⟨H+1+1+1,0,none⟩,1,some ⟨H+1+1+1+1,0,none⟩,1,none,0⟩
theorem mach_start (w:World) (nm:ByteArray):MaS (w.heap.size+1+1+1+1+1) (mach0 nm) (mphs w.heap.size) w ((((((w.alloc zeroM).alloc (.cells #[.string ⟨#[110]⟩,.int .i64 2,.string (⟨#[118]⟩ ++ nm),.int .i64 0] 89)).alloc (.cells #[.string ⟨#[103,111]⟩,.string (⟨#[101]⟩ ++ nm)] 9)).alloc (.cells #[.string ⟨#[116,111,112]⟩,.int .i64 (-1)] 57)).alloc
   (.cells #[.string ⟨#[]⟩,.int .u8 3,.int .i64 0,.int .i64 (-1),.string ⟨#[]⟩,.string ⟨#[]⟩,.slice none 0 0,.string ⟨#[]⟩] 49)).alloc (mBox (mach0 nm) (mphs w.heap.size))):=by
 obtain ⟨g0,g1,g2,g3,g4,g5,gb⟩:=objs6 w zeroM (.cells #[.string ⟨#[110]⟩,.int .i64 2,.string (⟨#[118]⟩ ++ nm),.int .i64 0] 89) (.cells #[.string ⟨#[103,111]⟩,.string (⟨#[101]⟩ ++ nm)] 9) (.cells #[.string ⟨#[116,111,112]⟩,.int .i64 (-1)] 57) (.cells #[.string ⟨#[]⟩,.int .u8 3,.int .i64 0,.int .i64 (-1),.string ⟨#[]⟩,.string ⟨#[]⟩,.slice none 0 0,.string ⟨#[]⟩] 49) (mBox (mach0 nm) (mphs w.heap.size))
 generalize ((((((w.alloc zeroM).alloc (.cells #[.string ⟨#[110]⟩,.int .i64 2,.string (⟨#[118]⟩ ++ nm),.int .i64 0] 89)).alloc (.cells #[.string ⟨#[103,111]⟩,.string (⟨#[101]⟩ ++ nm)] 9)).alloc (.cells #[.string ⟨#[116,111,112]⟩,.int .i64 (-1)] 57)).alloc
   (.cells #[.string ⟨#[]⟩,.int .u8 3,.int .i64 0,.int .i64 (-1),.string ⟨#[]⟩,.string ⟨#[]⟩,.slice none 0 0,.string ⟨#[]⟩] 49)).alloc (mBox (mach0 nm) (mphs w.heap.size)))=W at *
 refine ⟨⟨⟨?_,?_,?_,?_,.inl ⟨none,0,rfl,rfl⟩⟩,⟨own_blk (n:=2) g1 (by omega) rfl (by decide),own_blk (n:=2) g2 (by omega) rfl (by decide),own_blk (n:=1) g3 (by omega) rfl (by decide),own_blk (n:=1) g4 (by omega) rfl (by decide),.inl ⟨none,rfl⟩⟩⟩,g5,g0,gb,by omega⟩
 . refine sl_blk (l:=(mach0 nm).vars) g1 (by omega) fun i hi=>?_
   match i,hi with
   | 0,_=>exact ⟨cell_row g1,cell_row g1⟩
   | 1,_=>exact ⟨cell_row g1,cell_row g1⟩
 . refine .inr ⟨_,0,2,rfl,Nat.le_refl _,(Array.getElem?_eq_some_iff.1 g2).1,⟨by omega,_,g2⟩,fun i hi=>?_⟩
   match i,hi with
   | 0,_=>exact cell_row g2
   | 1,_=>exact cell_row g2
 . refine sl_blk (l:=(mach0 nm).regs) g3 (by omega) fun i hi=>?_
   match i,hi with
   | 0,_=>exact ⟨cell_row g3,cell_row g3⟩
 . refine sl_blk (l:=(mach0 nm).vers) g4 (by omega) fun i hi=>?_
   match i,hi with
   | 0,_=>exact ⟨.slice none 0 0,.inl ⟨_,_,rfl,rfl⟩,cell_row g4,cell_row g4,cell_row g4,cell_row g4,cell_row g4,cell_row g4,cell_row g4,cell_row g4⟩
theorem go_row {w:World} {g lo:Nat} (hg:w.heap[g]? = some (.cells #[.string ⟨#[103,111]⟩] 9 (0,0))) (hlo:lo<=g):SlS (TB lo 9) w (.slice (some ⟨g,0,none⟩) 1 1) [⟨#[103,111]⟩] :=
 .inr ⟨g,0,1,rfl,Nat.le_refl _,(Array.getElem?_eq_some_iff.1 hg).1,⟨hlo,_,hg⟩,fun i hi=>by
   obtain rfl:i=0:=by simp at hi;exact hi
   exact cell_row hg⟩
theorem take_next {α:Type} {l:List α} {j:Nat} (h:j<l.length) (a:List α):(a ++ l.take j) ++ [l[j]]=a ++ l.take (j+1):=by
 rw [List.append_assoc,List.take_succ_eq_append_getElem h]
structure Sm2 (a b:Nat) (w w':World):Prop where
 a:w'.heap[a]? = w.heap[a]?
 b:w'.heap[b]? = w.heap[b]?
theorem Sm2.refl (a b:Nat) (w:World):Sm2 a b w w:=⟨rfl,rfl⟩
theorem Sm2.drew {a b:Nat} {w w':World} (h:Sm2 a b w w'):Sm2 a b w w'.drew:=⟨h.a,h.b⟩
theorem Sm2.below {a b:Nat} {w w':World} (h:a<w.heap.size/\b<w.heap.size) (g:Below w.heap.size w w'):Sm2 a b w w':=⟨g.block a h.1,g.block b h.2⟩
theorem MaS.fin {H:Nat} {m:MdlD} {p:Ph} {w0 w:World} (h:MaS H m p w0 w):MaS H { m with trns:=[tGo] } { p with a5:=some ⟨w.heap.size+1,0,none⟩,c5:=1 } w0 (((w.setCell ⟨H,5,none⟩ (.slice (some ⟨w.heap.size+1,0,none⟩) 1 1)).alloc (.cells #[.string ⟨#[103,111]⟩] 9)).alloc (.cells #[.string ⟨#[]⟩,.int .i64 0,.int .i64 1,.slice (some ⟨w.heap.size,0,none⟩) 1 1,.int .i64 0,.string ⟨#[]⟩,.string ⟨#[]⟩,.int .u8 1] 59)):=by
 have h2:=h.hH
 have hat:AtB H w (w.setCell ⟨H,5,none⟩ (.slice (some ⟨w.heap.size+1,0,none⟩) 1 1)):=(AtB.refl _ w).set _ _
 have h8:=h.own.kept fun j=>hat.keptT h.mb (TT_ne j)
 have hb8:(w.setCell ⟨H,5,none⟩ (.slice (some ⟨w.heap.size+1,0,none⟩) 1 1)).heap[H]? = some (mBox { m with trns:=[tGo] } { p with a5:=some ⟨w.heap.size+1,0,none⟩,c5:=1 }):=mBox.set5 h.mb [tGo] _ _
 have hz8:=(hat.block _ (by omega)).trans h.zb
 have e8:(w.setCell ⟨H,5,none⟩ (.slice (some ⟨w.heap.size+1,0,none⟩) 1 1)).heap.size=w.heap.size:=hat.size
 have hl:=h.lt
 have hbs:=h.bel.size
 have hbel:=h.bel.trans (hat.below (B:=w0.heap.size) (by omega))
 generalize w.setCell ⟨H,5,none⟩ (.slice (some ⟨w.heap.size+1,0,none⟩) 1 1)=w8 at *
 have g9:Below w8.heap.size w8 ((w8.alloc (.cells #[.string ⟨#[103,111]⟩] 9)).alloc (.cells #[.string ⟨#[]⟩,.int .i64 0,.int .i64 1,.slice (some ⟨w.heap.size,0,none⟩) 1 1,.int .i64 0,.string ⟨#[]⟩,.string ⟨#[]⟩,.int .u8 1] 59)):=below_al2 w8 _ _
 have h9:=h8.below g9
 have b1:((w8.alloc (.cells #[.string ⟨#[103,111]⟩] 9)).alloc (.cells #[.string ⟨#[]⟩,.int .i64 0,.int .i64 1,.slice (some ⟨w.heap.size,0,none⟩) 1 1,.int .i64 0,.string ⟨#[]⟩,.string ⟨#[]⟩,.int .u8 1] 59)).heap[w.heap.size]? = some (.cells #[.string ⟨#[103,111]⟩] 9):=by rw [<- e8];exact (Below.heap_alloc _ _ _ (by simp)).trans (World.alloc_heap_new w8 _)
 have b2:((w8.alloc (.cells #[.string ⟨#[103,111]⟩] 9)).alloc (.cells #[.string ⟨#[]⟩,.int .i64 0,.int .i64 1,.slice (some ⟨w.heap.size,0,none⟩) 1 1,.int .i64 0,.string ⟨#[]⟩,.string ⟨#[]⟩,.int .u8 1] 59)).heap[w.heap.size+1]? = some (.cells #[.string ⟨#[]⟩,.int .i64 0,.int .i64 1,.slice (some ⟨w.heap.size,0,none⟩) 1 1,.int .i64 0,.string ⟨#[]⟩,.string ⟨#[]⟩,.int .u8 1] 59):=by have:=World.alloc_heap_new (w8.alloc (.cells #[.string ⟨#[103,111]⟩] 9)) (.cells #[.string ⟨#[]⟩,.int .i64 0,.int .i64 1,.slice (some ⟨w.heap.size,0,none⟩) 1 1,.int .i64 0,.string ⟨#[]⟩,.string ⟨#[]⟩,.int .u8 1] 59);rw [show (w8.alloc (.cells #[.string ⟨#[103,111]⟩] 9)).heap.size=w.heap.size+1 by simp [e8]] at this;exact this
 refine ⟨⟨⟨h9.mod.vars,h9.mod.evs,h9.mod.regs,h9.mod.vers,?_⟩,⟨h9.own.o1,h9.own.o2,h9.own.o3,h9.own.o4,own_blk (n:=1) b2 (by omega) rfl (by decide)⟩⟩,(g9.block _ (by omega)).trans hb8,(g9.block _ (by omega)).trans hz8,hbel.trans (g9.mono (by omega)),h.hH⟩
 refine sl_blk (l:=[tGo]) b2 (by omega) fun i hi=>?_
 match i,hi with
 | 0,_=>exact ⟨_,go_row b1 (by omega),cell_row b2,cell_row b2,cell_row b2,cell_row b2,cell_row b2,cell_row b2,cell_row b2,cell_row b2⟩
def MachP (m:MdlD) (w:World) (e:Ending) (w':World):Prop:=∃ p,e=.returned (mdV m p)/\OwnM w.heap.size w' m p/\Below w.heap.size w w'
theorem machine_any {Q Q2 R:BP} (nm:ByteArray) (subs:List ByteArray) (pts:List VerD) (sa:Option Addr) (sc:Nat) (pa:Option Addr) (pc:Nat) (w:World) (hs:SlS Q w (.slice sa subs.length sc) subs) (hp:Sl Q2 8 (VerE R) w (.slice pa pts.length pc) pts) (hd:∀ x ∈ pts,x.df=[]) (hl1:subs.length<=100) (hl2:pts.length<=100) (hn:nm.size<=1000) :
   Calls Tryz.prog 13 #[.string nm,.slice sa subs.length sc,.slice pa pts.length pc] w (MachP (machM nm subs pts) w):=by
 obtain ⟨iV,hiV,zV0,zV1,zV2⟩:=info_parts info_Ver
 have HS:=hid fun (wx:World) (g:Below w.heap.size w wx)=>hs.kept (Kept.of_below g)
 have HP:=hid fun (wx:World) (g:Below w.heap.size w wx)=>hp.kept VerE.mono (Kept.of_below g) (Kept.of_below g)
 have HD:=hid hd
 have HQ:Hid (∀ e w',MachP (machM nm subs pts) w e w'↔∃ p,e=.returned (mdV (machM nm subs pts) p)/\OwnM w.heap.size w' (machM nm subs pts) p/\Below w.heap.size w w'):=hid fun _ _=>Iff.rfl
 clear hs hp hd
 go_enter Tryz.func13,Tryz.ntmps13
 go_upto_region 2 with fail
 have hM:MaS (w.heap.size+1+1+1+1+1) ⟨nm,[⟨⟨#[110]⟩,2⟩,⟨⟨#[118]⟩ ++ nm,0⟩],[⟨#[103,111]⟩,⟨#[101]⟩ ++ nm],[⟨⟨#[116,111,112]⟩,-1⟩],[vIni],[]⟩ ⟨some ⟨w.heap.size+1,0,none⟩,2,some ⟨w.heap.size+1+1,0,none⟩,2,some ⟨w.heap.size+1+1+1,0,none⟩,1,some ⟨w.heap.size+1+1+1+1,0,none⟩,1,none,0⟩ w ((((((w.alloc (.cells #[.string ⟨#[]⟩,.slice none 0 0,.slice none 0 0,.slice none 0 0,.slice none 0 0,.slice none 0 0] 42)).alloc (.cells #[.string ⟨#[110]⟩,.int .i64 2,.string (⟨#[118]⟩ ++ nm),.int .i64 0] 89)).alloc (.cells #[.string ⟨#[103,111]⟩,.string (⟨#[101]⟩ ++ nm)] 9)).alloc (.cells #[.string ⟨#[116,111,112]⟩,.int .i64 (-1)] 57)).alloc (.cells #[.string ⟨#[]⟩,.int .u8 3,.int .i64 0,.int .i64 (-1),.string ⟨#[]⟩,.string ⟨#[]⟩,.slice none 0 0,.string ⟨#[]⟩] 49)).alloc (.cells #[.string nm,.slice (some ⟨w.heap.size+1,0,none⟩) 2 2,.slice (some ⟨w.heap.size+1+1,0,none⟩) 2 2,.slice (some ⟨w.heap.size+1+1+1,0,none⟩) 1 1,.slice (some ⟨w.heap.size+1+1+1+1,0,none⟩) 1 1,.slice none 0 0] 42)):=mach_start w nm
 obtain ⟨o,ho⟩:∃ o:MdlD,o=⟨nm,[⟨⟨#[110]⟩,2⟩,⟨⟨#[118]⟩ ++ nm,0⟩],[⟨#[103,111]⟩,⟨#[101]⟩ ++ nm],[⟨⟨#[116,111,112]⟩,-1⟩],[vIni],[]⟩:=⟨_,rfl⟩
 rw [<- ho] at hM
 generalize ((((((w.alloc (.cells #[.string ⟨#[]⟩,.slice none 0 0,.slice none 0 0,.slice none 0 0,.slice none 0 0,.slice none 0 0] 42)).alloc (.cells #[.string ⟨#[110]⟩,.int .i64 2,.string (⟨#[118]⟩ ++ nm),.int .i64 0] 89)).alloc (.cells #[.string ⟨#[103,111]⟩,.string (⟨#[101]⟩ ++ nm)] 9)).alloc (.cells #[.string ⟨#[116,111,112]⟩,.int .i64 (-1)] 57)).alloc (.cells #[.string ⟨#[]⟩,.int .u8 3,.int .i64 0,.int .i64 (-1),.string ⟨#[]⟩,.string ⟨#[]⟩,.slice none 0 0,.string ⟨#[]⟩] 49)).alloc (.cells #[.string nm,.slice (some ⟨w.heap.size+1,0,none⟩) 2 2,.slice (some ⟨w.heap.size+1+1,0,none⟩) 2 2,.slice (some ⟨w.heap.size+1+1+1,0,none⟩) 1 1,.slice (some ⟨w.heap.size+1+1+1+1,0,none⟩) 1 1,.slice none 0 0] 42))=W1 at *
 generalize (⟨some ⟨w.heap.size+1,0,none⟩,2,some ⟨w.heap.size+1+1,0,none⟩,2,some ⟨w.heap.size+1+1+1,0,none⟩,1,some ⟨w.heap.size+1+1+1+1,0,none⟩,1,none,0⟩:Ph)=p0 at *
 generalize w.heap.size+1+1+1+1+1=H at *
 have HM:=hid hM
 have HO:=hid ho
 have ho1:o.vers.length=1:=by rw [ho];rfl
 clear hM ho
 obtain ⟨L,hL⟩:=ex2 (subs.map vSub)
 have hLl:L.length=subs.length:=by rw [<- hL,List.length_map]
 have HLA:Hid (∀ j (h:j<subs.length) (h':j<L.length),L[j]=vSub subs[j]):=hid (by subst hL;intro j h h';simp)
 have HL:=hid hL
 clear hL
 go_wp2_with fail
 go_loopw [8] (fun i wr=>∃ j:Nat,j<=subs.length/\i=.int .i64 j/\∃ pj,MaS H { o with vers:=o.vers ++ L.take j } pj w wr) (fun i _=>subs.length - (intOf i).toNat)
 case atStart=>exact ⟨0,by omega,rfl,p0,by rw [List.take_zero,List.append_nil];exact HM.o⟩
 case round =>
  obtain ⟨wo,rfl⟩:=ex1 wr
  obtain ⟨j,hj,rfl,pj,hT⟩:=hrel
  clear HM
  obtain ⟨oj,hoj⟩:∃ oj:MdlD,oj={ o with vers:=o.vers ++ L.take j }:=⟨_,rfl⟩
  rw [<- hoj] at hT
  have hvl:oj.vers.length<=200:=by rw [hoj];simp;omega
  have HOJ:=hid hoj
  have HT:=hid hT
  clear hT hoj
  obtain ⟨y0,y1,y2,y3,y4,y5,_⟩:=mBox.box HT.o.mb
  by_cases hlj:j<subs.length
  . obtain ⟨b2,o2,ea,hbw,r0⟩:=(HS.o w (Below.refl _ _)).get hlj
    replace r0:=(HT.o.bel.cell (p:=⟨b2,o2+j,none⟩) hbw).trans r0
    have hjI:(j:Int)<(subs.length:Int):=by omega
    have hj0:(0:Int)<=(j:Int):=by omega
    have hjT:j<L.length:=by rw [hLl];exact hlj
    have hat:=HLA.o j hlj hjT
    obtain ⟨sj,hsj⟩:=ex2 (subs[j])
    rw [hsj] at r0 hat
    have HAt:=hid hat
    have HW:Hid (∀ W',Sm2 H b2 wo W'->W'.cell? ⟨H,4,none⟩=some (.slice pj.a4 oj.vers.length pj.c4)/\W'.cell? ⟨b2,o2+j,none⟩=some (.string sj)):=hid fun W' g=>⟨(World.cell?_of_block g.a).trans y4,(World.cell?_of_block g.b).trans r0⟩
    have hHl:=HT.o.lt
    have hzw:w.heap.size<=wo.heap.size:=HT.o.bel.size
    have hB0:Below wo.heap.size wo wo:=Below.refl _ _
    have hS0:Sm2 H b2 wo wo:=Sm2.refl _ _ _
    have hHb:H<wo.heap.size/\b2<wo.heap.size:=⟨hHl,by omega⟩
    have hn1:oj.vers.length+1<=1000000:=by omega
    have hB8:Below wo.heap.size wo ((wo.alloc (.cells #[.string ⟨#[103,111]⟩] 9)).alloc (.cells #[.string ⟨#[116]⟩,.int .u8 1,.int .i64 0,.int .i64 (-1),.string ⟨#[]⟩,.string ⟨#[]⟩,.slice (some ⟨wo.heap.size,0,none⟩) 1 1,.string sj] 49)).drew:=(below_al2 wo (.cells #[.string ⟨#[103,111]⟩] 9) (.cells #[.string ⟨#[116]⟩,.int .u8 1,.int .i64 0,.int .i64 (-1),.string ⟨#[]⟩,.string ⟨#[]⟩,.slice (some ⟨wo.heap.size,0,none⟩) 1 1,.string sj] 49)).drew
    have hG8:((wo.alloc (.cells #[.string ⟨#[103,111]⟩] 9)).alloc (.cells #[.string ⟨#[116]⟩,.int .u8 1,.int .i64 0,.int .i64 (-1),.string ⟨#[]⟩,.string ⟨#[]⟩,.slice (some ⟨wo.heap.size,0,none⟩) 1 1,.string sj] 49)).heap[wo.heap.size]? = some (.cells #[.string ⟨#[103,111]⟩] 9):=(Below.heap_alloc _ _ _ (by simp)).trans (World.alloc_heap_new wo (.cells #[.string ⟨#[103,111]⟩] 9))
    have hS8:=Sm2.below hHb hB8
    have hTa:=HT.o.below hB8
    have hv8:=ver_one (TB w.heap.size 9) (wo.alloc (.cells #[.string ⟨#[103,111]⟩] 9)) (vSub sj) (some ⟨wo.heap.size,0,none⟩) 1 49 (go_row hG8 hzw)
    rw [show (wo.alloc (.cells #[.string ⟨#[103,111]⟩] 9)).heap.size=wo.heap.size+1 by simp] at hv8
    have HV:=hid hv8
    clear hv8
    have hlo8:w.heap.size<=((wo.alloc (.cells #[.string ⟨#[103,111]⟩] 9)).alloc (.cells #[.string ⟨#[116]⟩,.int .u8 1,.int .i64 0,.int .i64 (-1),.string ⟨#[]⟩,.string ⟨#[]⟩,.slice (some ⟨wo.heap.size,0,none⟩) 1 1,.string sj] 49)).drew.heap.size:=Nat.le_trans hzw hB8.size
    have HTa:=hid hTa
    clear y0 y1 y2 y3 y4 y5 r0 hat hsj hTa hG8
    subst ea
    go_upto_region 5 with fail
    refine wp_region_any (by kernel_rfl) ?_
    change wpAny _ _ _ _ _ _ _ (World.drew _)
    refine wpAny_sink (n:=11) (o:=⟨none,.store 39 (.tmp 41) (.tmp 40),0, "law.go:137", #[⟨10,.data⟩,⟨9,.data⟩,⟨9,.chain⟩,⟨0,.phase⟩,⟨1,.phase⟩,⟨2,.phase⟩,⟨3,.phase⟩,⟨4,.phase⟩,⟨5,.phase⟩,⟨6,.phase⟩,⟨7,.phase⟩,⟨8,.phase⟩,⟨9,.phase⟩],none⟩) (ops':=#[⟨some 31,.fieldAddr 42 (.tmp 7) 4,0, "law.go:137", #[],none⟩,⟨some 32,.load 39 (.tmp 31),39, "law.go:137", #[⟨0,.data⟩],none⟩,⟨some 33,.move (.tmp 1),28, "law.go:137", #[],none⟩,⟨some 34,.move (.tmp 8),3, "law.go:137", #[],none⟩,⟨some 35,.indexAddr 28 (.tmp 33) (.tmp 34),0, "law.go:137", #[⟨2,.data⟩,⟨3,.data⟩],none⟩,⟨some 36,.load 9 (.tmp 35),9, "law.go:137", #[⟨4,.data⟩],none⟩,⟨some 37,.buildSlice 28 1 #[(0,.const (.string { data:=#[103,111] }))],28, "law.go:137", #[],none⟩,⟨some 38,.build 49 #[(0,.const (.string { data:=#[116] })),(1,.const (.int .u8 1)),(3,.const (.int .i64 (-1))),(7,.tmp 36),(6,.tmp 37)],49, "law.go:137", #[⟨5,.data⟩,⟨6,.data⟩],none⟩,⟨some 39,.buildSlice 39 1 #[(0,.tmp 38)],39, "law.go:137", #[⟨7,.data⟩],none⟩,⟨some 40,.call { callee:=.builtin .append,args:=#[.tmp 32,.tmp 39],argTypes:=#[39,39] },39, "law.go:137", #[⟨1,.data⟩,⟨8,.data⟩],none⟩,⟨some 41,.fieldAddr 42 (.tmp 7) 4,0, "law.go:137", #[⟨0,.phase⟩,⟨1,.phase⟩,⟨2,.phase⟩,⟨3,.phase⟩,⟨4,.phase⟩,⟨5,.phase⟩,⟨6,.phase⟩,⟨7,.phase⟩,⟨8,.phase⟩,⟨9,.phase⟩],none⟩]) (by decide) (by kernel_rfl) (by rfl) (by rfl) ?_
    refine hld HW.o (hS0.drew) (fun hHeld=>?_)
    refine tk 0 rfl ?_
    refine tk 1 rfl ?_
    refine tk 2 rfl ?_
    refine tk 3 rfl ?_
    refine tk 4 rfl ?_
    refine tk 5 rfl ?_
    refine rd1 6 (fun K hK=>?_)
    (go_simp;have hS6:=Sm2.below hHb ((hB0.drew).trans (below_al1 wo.drew (.cells #[.string ⟨#[103,111]⟩] 9))))
    refine nx hK ?_ (fun hH1=>?_)
    (first | exact HW.o _ hS0.drew | exact HW.o _ hS6 | exact HW.o _ hS8 | exact HW.o _ hS9)
    clear hK K hHeld
    refine tk 7 rfl ?_
    refine rd1 8 (fun K hK=>?_)
    (go_simp)
    refine nx hK ?_ (fun hH2=>?_)
    (first | exact HW.o _ hS0.drew | exact HW.o _ hS6 | exact HW.o _ hS8 | exact HW.o _ hS9)
    clear hK K hH1
    refine rd1 9 (fun K hK=>?_)
    ((refine step_append_sl VerE.moves _ (by rfl) _ _ _ (by rfl) 49 iV _ 112 Tryz.underlying39 hiV zV0 zV1 zV2 (by rfl) (by decide) (by decide) (by rfl) (by rfl) HTa.o.own.mod.vers HTa.o.own.own.o4 HV.o hn1 hlo8 ?_;intro a6 c6 w6 ho6 hg6 hs6;have hS9:Sm2 H b2 wo w6:=⟨(hg6.same HTa.o.mb (by decide)).trans HT.o.mb.symm,((hg6.below (Nat.le_refl _) hlo8).block _ hbw).trans hS8.b⟩))
    refine nx hK ?_ (fun hH3=>?_)
    (first | exact HW.o _ hS0.drew | exact HW.o _ hS6 | exact HW.o _ hS8 | exact HW.o _ hS9)
    clear hK K hH2
    refine tk 10 rfl ?_
    refine dn ?_
    rotate_left
    have hTb:MaS H { oj with vers:=oj.vers ++ [vSub sj] } { pj with a4:=a6,c4:=c6 } w (w6.setCell ⟨H,4,none⟩ (.slice a6 (oj.vers.length+1) c6)):=by
      have:=HTa.o.push hg6 ho6 (hs6 (kept_str hg6 (by decide)))
      rw [List.length_append] at this
      exact this
    obtain ⟨x0,x1,x2,x3,x4,x5,f0,f1,f2,f3,f4,f5⟩:=mBox.box (hg6.same HTa.o.mb (by decide))
    have hEq:{ oj with vers:=oj.vers ++ [vSub sj] }={ o with vers:=o.vers ++ L.take (j+1) }:=by
      rw [HOJ.o,<- take_next hjT,HAt.o]
    rw [hEq] at hTb
    have HTb:=hid hTb
    clear hEq hTb ho6 hg6 hs6 hS9 x0 x1 x2 x3 x5
    refine sinkQ_of fun K hK=>?_
    go_simp
    refine hK _ _ ?_
    clear hK K
    go_wp2_with fail
    go_roundw
    case rel=>exact ⟨j+1,hlj,by go_num,_,HTb.o⟩
    case measure=>simp [intOf] <;> omega
  . obtain rfl:j=subs.length:=by omega
    rw [<- hLl,List.take_length] at HOJ
    obtain ⟨oa,rfl⟩:∃ oa,oa=oj:=⟨_,rfl⟩
    obtain ⟨pa',rfl⟩:∃ pa',pa'=pj:=⟨_,rfl⟩
    have HTA:=hid HT.o
    have hal:oa.vers.length=1+subs.length:=by rw [HOJ.o];simp [ho1,hLl]
    have HOA:Hid (oa={ o with vers:=o.vers ++ L }):=hid HOJ.o
    clear hlj hj HOJ HT y0 y1 y2 y3 y4 y5
    obtain ⟨K2,hK2⟩:=ex2 (pts.map vPnt)
    have hKl:K2.length=pts.length:=by rw [<- hK2,List.length_map]
    have HKA:Hid (∀ j (h:j<pts.length) (h':j<K2.length),K2[j]=vPnt pts[j]):=hid (by subst hK2;intro j h h';simp)
    have HK2:=hid hK2
    clear hK2
    go_wp2_with fail
    go_loopw [9] (fun i wr=>∃ j:Nat,j<=pts.length/\i=.int .i64 j/\∃ pj,MaS H { oa with vers:=oa.vers ++ K2.take j } pj w wr) (fun i _=>pts.length - (intOf i).toNat)
    case atStart=>exact ⟨0,by omega,rfl,pa',by rw [List.take_zero,List.append_nil];exact HTA.o⟩
    case round =>
     obtain ⟨wo2,rfl⟩:=ex1 wr
     obtain ⟨j,hj,rfl,pj,hT⟩:=hrel
     clear HTA
     obtain ⟨oj,hoj⟩:∃ oj:MdlD,oj={ oa with vers:=oa.vers ++ K2.take j }:=⟨_,rfl⟩
     rw [<- hoj] at hT
     have hvl:oj.vers.length<=300:=by rw [hoj];simp;omega
     have HOJ:=hid hoj
     have HT:=hid hT
     clear hT hoj
     by_cases hlj:j<pts.length
     . obtain ⟨b2,o2,ea,hbw,dv,hdv,r0⟩:=(HP.o wo2 HT.o.bel).get hlj
       have hjI:(j:Int)<(pts.length:Int):=by omega
       have hj0:(0:Int)<=(j:Int):=by omega
       have hjT:j<K2.length:=by rw [hKl];exact hlj
       have hat:=HKA.o j hlj hjT
       have hdf:=HD.o _ (List.getElem_mem hlj)
       obtain ⟨x,hx⟩:=ex2 (pts[j])
       rw [hx] at r0 hat hdf hdv
       obtain ⟨da,dc,rfl⟩:=hdv.len
       rw [hdf,List.length_nil] at r0
       obtain ⟨r0,r1,r2,r3,r4,r5,r6,r7⟩:=r0
       have HAt:=hid hat
       have HDf:=hid hdf
       clear hat hdf hdv hx
       subst ea
       go_upto_region 12 with fail
       clear r0 r1 r2 r3 r4 r5 r6 r7
       have hA6:=World.alloc_heap_new wo2 (.cells #[.string x.nm,.int .u8 x.kd,.int .i64 (-1),.int .i64 1,.string x.en,.string x.ex,.slice da 0 dc,.string x.sb] 49)
       have hT6:=HT.o.below (below_al1 wo2 (.cells #[.string x.nm,.int .u8 x.kd,.int .i64 (-1),.int .i64 1,.string x.en,.string x.ex,.slice da 0 dc,.string x.sb] 49))
       generalize wo2.alloc (.cells #[.string x.nm,.int .u8 x.kd,.int .i64 (-1),.int .i64 1,.string x.en,.string x.ex,.slice da 0 dc,.string x.sb] 49)=W6 at *
       have HT6:=hid hT6
       have HTa:=hid (hT6.below (below_al1 W6 (.cells #[.string x.nm,.int .u8 x.kd,.int .i64 (-1),.int .i64 1,.string x.en,.string x.ex,.slice da 0 dc,.string x.sb] 49)))
       have hdv:SlS (TB w.heap.size 9) (W6.alloc (.cells #[.string x.nm,.int .u8 x.kd,.int .i64 (-1),.int .i64 1,.string x.en,.string x.ex,.slice da 0 dc,.string x.sb] 49)) (.slice da (vPnt x).df.length dc) (vPnt x).df:=.inl ⟨da,dc,by show Value.slice da x.df.length dc=_;rw [HDf.o];rfl,HDf.o⟩
       have hv8:=ver_one (TB w.heap.size 9) W6 (vPnt x) da dc 49 (by show SlS _ (W6.alloc (.cells #[.string x.nm,.int .u8 x.kd,.int .i64 (-1),.int .i64 1,.string x.en,.string x.ex,.slice da x.df.length dc,.string x.sb] 49)) _ _;rw [HDf.o,List.length_nil];exact hdv)
       have hdl:(vPnt x).df.length=0:=by show x.df.length=0;rw [HDf.o];rfl
       rw [hdl] at hv8
       have HV:Hid (Sl anyB 8 (VerE (TB w.heap.size 9)) (W6.alloc (.cells #[.string x.nm,.int .u8 x.kd,.int .i64 (-1),.int .i64 1,.string x.en,.string x.ex,.slice da 0 dc,.string x.sb] 49)) (.slice (some ⟨W6.heap.size,0,none⟩) [vPnt x].length 1) [vPnt x]):=hid hv8
       have hn1:oj.vers.length+1<=1000000:=by omega
       have hlo8:w.heap.size<=(W6.alloc (.cells #[.string x.nm,.int .u8 x.kd,.int .i64 (-1),.int .i64 1,.string x.en,.string x.ex,.slice da 0 dc,.string x.sb] 49)).heap.size:=HTa.o.bel.size
       obtain ⟨z0,z1,z2,z3,z4,z5,z6,z7⟩:=cells8 hA6
       obtain ⟨y0,y1,y2,y3,y4,y5,_⟩:=mBox.box hT6.mb
       clear hv8 hdv hdl hA6 hT6
       go_wp2_with (at_builtin;refine wpList_append_sl VerE.moves _ rfl _ _ 39 rfl 49 iV _ 112 Tryz.underlying39 hiV zV0 zV1 zV2 rfl (by decide) (by decide) rfl rfl HTa.o.own.mod.vers HTa.o.own.own.o4 HV.o hn1 hlo8 ?_;intro a6 c6 w6 ho6 hg6 hs6;obtain ⟨x0,x1,x2,x3,x4,x5,f0,f1,f2,f3,f4,f5⟩:=mBox.box (hg6.same HTa.o.mb (by decide)))
       have hTb:MaS H { oj with vers:=oj.vers ++ [vPnt x] } { pj with a4:=a6,c4:=c6 } w (w6.setCell ⟨H,4,none⟩ (.slice a6 (oj.vers.length+1) c6)):=by
         have:=HTa.o.push hg6 ho6 (hs6 (kept_str hg6 (by decide)))
         rw [List.length_append] at this
         exact this
       have hEq:{ oj with vers:=oj.vers ++ [vPnt x] }={ oa with vers:=oa.vers ++ K2.take (j+1) }:=by
         rw [HOJ.o,<- take_next hjT,HAt.o]
       rw [hEq] at hTb
       have HTb:=hid hTb
       clear hEq hTb ho6 hg6 hs6 x0 x1 x2 x3 x4 x5 f0 f1 f2 f3 f4 f5 z0 z1 z2 z3 z4 z5 z6 z7 y0 y1 y2 y3 y4 y5
       go_roundw
       case rel=>exact ⟨j+1,hlj,by go_num,_,HTb.o⟩
       case measure=>simp [intOf] <;> omega
     . obtain rfl:j=pts.length:=by omega
       rw [<- hKl,List.take_length] at HOJ
       have hvl2:oj.vers.length+1<=1000000:=by omega
       obtain ⟨y0,y1,y2,y3,y4,y5,_⟩:=mBox.box HT.o.mb
       have HTa:=hid (HT.o.below (below_al1 wo2 (.cells #[.string ⟨#[100,111,110,101]⟩,.int .u8 2,.int .i64 0,.int .i64 (-1),.string ⟨#[]⟩,.string ⟨#[]⟩,.slice none 0 0,.string ⟨#[]⟩] 49)))
       have HV:Hid (Sl anyB 8 (VerE (TB w.heap.size 9)) (wo2.alloc (.cells #[.string ⟨#[100,111,110,101]⟩,.int .u8 2,.int .i64 0,.int .i64 (-1),.string ⟨#[]⟩,.string ⟨#[]⟩,.slice none 0 0,.string ⟨#[]⟩] 49)) (.slice (some ⟨wo2.heap.size,0,none⟩) [vEnd].length 1) [vEnd]):=hid (ver_one (TB w.heap.size 9) wo2 vEnd none 0 49 (.inl ⟨none,0,rfl,rfl⟩))
       have hlo8:w.heap.size<=(wo2.alloc (.cells #[.string ⟨#[100,111,110,101]⟩,.int .u8 2,.int .i64 0,.int .i64 (-1),.string ⟨#[]⟩,.string ⟨#[]⟩,.slice none 0 0,.string ⟨#[]⟩] 49)).heap.size:=HTa.o.bel.size
       go_upto_region 13 with fail
       go_upto_region 14 with (at_builtin;refine wpList_append_sl VerE.moves _ rfl _ _ 39 rfl 49 iV _ 112 Tryz.underlying39 hiV zV0 zV1 zV2 rfl (by decide) (by decide) rfl rfl HTa.o.own.mod.vers HTa.o.own.own.o4 HV.o hvl2 hlo8 ?_;intro a6 c6 w6 ho6 hg6 hs6;obtain ⟨x0,x1,x2,x3,x4,x5,f0,f1,f2,f3,f4,f5⟩:=mBox.box (hg6.same HTa.o.mb (by decide)))
       have hTb:MaS H { oj with vers:=oj.vers ++ [vEnd] } { pj with a4:=a6,c4:=c6 } w (w6.setCell ⟨H,4,none⟩ (.slice a6 (oj.vers.length+1) c6)):=by
         have:=HTa.o.push hg6 ho6 (hs6 (kept_str hg6 (by decide)))
         rw [List.length_append] at this
         exact this
       have HTb:=hid hTb
       generalize w6.setCell ⟨H,4,none⟩ (.slice a6 (oj.vers.length+1) c6)=W7 at *
       clear hTb HTa HV hlo8 ho6 hg6 hs6 x0 x1 x2 x3 x4 x5 f0 f1 f2 f3 f4 f5 y0 y1 y2 y3 y4 y5
       obtain ⟨y0,y1,y2,y3,y4,y5,_⟩:=mBox.box HTb.o.mb
       have hHl:=HTb.o.lt
       go_upto_region 15 with fail
       have hF:=HTb.o.fin
       have HF:=hid hF
       generalize ((W7.setCell ⟨H,5,none⟩ (.slice (some ⟨W7.heap.size+1,0,none⟩) 1 1)).alloc (.cells #[.string ⟨#[103,111]⟩] 9)).alloc (.cells #[.string ⟨#[]⟩,.int .i64 0,.int .i64 1,.slice (some ⟨W7.heap.size,0,none⟩) 1 1,.int .i64 0,.string ⟨#[]⟩,.string ⟨#[]⟩,.int .u8 1] 59)=W9 at *
       generalize W7.heap.size=n7 at *
       clear hF HTb y0 y1 y2 y3 y4 y5
       obtain ⟨mm,hmm⟩:∃ mm:MdlD,mm={ oj with vers:=oj.vers ++ [vEnd],trns:=[tGo] }:=⟨_,rfl⟩
       obtain ⟨p9,hp9⟩:∃ p9:Ph,p9={ pj with a4:=a6,c4:=c6,a5:=some ⟨n7+1,0,none⟩,c5:=1 }:=⟨_,rfl⟩
       have hF9:MaS H mm p9 w W9:=by rw [hmm,hp9];exact HF.o
       have HF9:=hid hF9
       have hMM:mm=machM nm subs pts:=by rw [hmm,HOJ.o,HOA.o,HO.o,<- HL.o,<- HK2.o];rfl
       have HMM:=hid hMM
       obtain ⟨x0,x1,x2,x3,x4,x5,_⟩:=mBox.box hF9.mb
       obtain ⟨z0,z1,z2,z3,z4,z5,f0,f1,f2,f3,f4,f5⟩:=zero_box hF9.zb
       have hHw:w.heap.size<H:=hF9.hH
       clear hMM hmm hp9 hF9 HF
       go_wp2_with fail
       obtain ⟨q1,q2⟩:=box_six HF9.o.zb (.string mm.nm) (.slice p9.a1 mm.vars.length p9.c1) (.slice p9.a2 mm.evs.length p9.c2) (.slice p9.a3 mm.regs.length p9.c3) (.slice p9.a4 mm.vers.length p9.c4) (.slice p9.a5 mm.trns.length p9.c5)
       refine bodyPost_ret (v:=mdV mm p9) (by simp [results,Tryz.results13,go_sem,mdV,z0,z1,z2,z3,z4,z5]) rfl ?_
       rw [HQ.o,<- HMM.o]
       exact ⟨p9,rfl,HF9.o.own.kept fun j=>q2.keptT HF9.o.zb (TT_ne j),HF9.o.bel.trans (q2.below (Nat.le_refl _))⟩
end Go.Proofs
