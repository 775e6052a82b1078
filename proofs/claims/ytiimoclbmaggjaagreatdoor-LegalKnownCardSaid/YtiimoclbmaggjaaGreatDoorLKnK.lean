/- Closed statements: rows of numbers as they are made, a configuration in its box, a door in its. No walk. -/
import Derived.Test.YtiimoclbmaggjaaGreatDoorLOdAD
import Derived.Test.YtiimoclbmaggjaaGreatDoorLDpAB
import Derived.Test.YtiimoclbmaggjaaGreatDoorLRwM
namespace Go.Proofs
open Go.RowKit Go.Lx Go.Md Go.Shelf
set_option linter.unusedVariables false
def Yes (w:World) (e:Ending) (w':World):Prop:=e=.returned (.bool true)∧Below w.heap.size w w'
theorem below_kn {w a b:World} (h:Below w.heap.size w a) (g:Below a.heap.size a b):Below w.heap.size w b:=h.trans (g.mono h.size)
theorem al1_kn {B:Nat} {w a:World} (h:Below B w a) (hb:B≤w.heap.size) (o1:Obj):Below B w (a.alloc o1):=h.alloc (Nat.le_trans hb h.size) _
theorem al2_kn {B:Nat} {w a:World} (h:Below B w a) (hb:B≤w.heap.size) (o1 o2:Obj):Below B w ((a.alloc o1).alloc o2):=al1_kn (al1_kn h hb o1) hb o2
theorem al3_kn {B:Nat} {w a:World} (h:Below B w a) (hb:B≤w.heap.size) (o1 o2 o3:Obj):Below B w (((a.alloc o1).alloc o2).alloc o3):=al1_kn (al2_kn h hb o1 o2) hb o3
theorem row_kn {w:World} {b n:Nat} {cs:Array Value} {l:List Int} (h:w.heap[b]? = some (.cells cs 3 (0,0))) (hc:cs.toList=nums l) (hn:l.length=n):RowIn w (.slice (some ⟨b,0,none⟩) n n) l:=by
 subst hn
 refine .inr ⟨b,0,l.length,rfl,Nat.le_refl _,(Array.getElem?_eq_some_iff.1 h).1,fun j u hu=>?_⟩
 have:(⟨b,0,none⟩:Addr).add j=⟨b,0+j,none⟩:=by simp [Addr.add];exact fun h=>h.symm
 rw [this,Nat.zero_add,cell_blk h j,← Array.getElem?_toList,hc];exact hu
theorem row_new {w:World} {n:Nat} {cs:Array Value} {l:List Int} (hc:cs.toList=nums l) (hn:l.length=n):RowIn (w.alloc (.cells cs 3)) (.slice (some ⟨w.heap.size,0,none⟩) n n) l:=row_kn (World.alloc_heap_new w _) hc hn
theorem row1_kn (w:World) (cs:Array Value) (l:List Int) (n:Nat) (hc:cs.toList=nums l) (hn:l.length=n) (b:Nat) (hb:w.heap.size=b):RowIn (w.alloc (.cells cs 3)) (.slice (some ⟨b,0,none⟩) n n) l:=by
 subst hb;exact row_new hc hn
theorem RowIn.drew {w:World} {v:Value} {l:List Int} (h:RowIn w v l):RowIn w.drew v l:=h.below (Below.refl _ _).drew
theorem two3_kn (w:World) (x y z u v s:Int):RowIn ((w.alloc (.cells #[.int .i64 x,.int .i64 y,.int .i64 z] 3)).alloc (.cells #[.int .i64 u,.int .i64 v,.int .i64 s] 3)) (.slice (some ⟨w.heap.size,0,none⟩) 3 3) [x,y,z]∧RowIn ((w.alloc (.cells #[.int .i64 x,.int .i64 y,.int .i64 z] 3)).alloc (.cells #[.int .i64 u,.int .i64 v,.int .i64 s] 3)) (.slice (some ⟨w.heap.size+1,0,none⟩) 3 3) [u,v,s] :=
 ⟨(row_new (n:=3) rfl rfl).below (below_al1 _ _),row1_kn _ _ _ 3 rfl rfl _ (World.size_alloc _ _)⟩
structure Dk (m:MdlD) (p:Ph) (H:Nat) (w:World):Prop where
 mod:Mod anyM w m p
 box:Box w H (.string m.nm) (.slice p.a1 m.vars.length p.c1) (.slice p.a2 m.evs.length p.c2) (.slice p.a3 m.regs.length p.c3) (.slice p.a4 m.vers.length p.c4) (.slice p.a5 m.trns.length p.c5)
 lt:H<w.heap.size
theorem Dk.below {m:MdlD} {p:Ph} {H:Nat} {w w':World} (h:Dk m p H w) (g:Below w.heap.size w w'):Dk m p H w':=⟨h.mod.below g,h.box.below g h.lt,Nat.lt_of_lt_of_le h.lt g.size⟩
theorem Dk.made {m:MdlD} {p:Ph} {w:World} (h:Mod anyM w m p):Dk m p w.heap.size (w.alloc (.cells #[.string m.nm,.slice p.a1 m.vars.length p.c1,.slice p.a2 m.evs.length p.c2,.slice p.a3 m.regs.length p.c3,.slice p.a4 m.vers.length p.c4,.slice p.a5 m.trns.length p.c5] 28)):=⟨h.below (below_al1 w _),box6 w m p,by simp⟩
structure Kb (H r1 r2:Nat) (la ll:List Int) (w:World):Prop where
 d0:w.cell? ⟨H,0,none⟩=some (.slice (some ⟨r1,0,none⟩) 3 3)
 d1:w.cell? ⟨H,1,none⟩=some (.slice (some ⟨r2,0,none⟩) 3 3)
 R1:RowIn w (.slice (some ⟨r1,0,none⟩) 3 3) la
 R2:RowIn w (.slice (some ⟨r2,0,none⟩) 3 3) ll
 lt:H<w.heap.size
 free:∀ j,w.frozen? ⟨H,j,none⟩=false
theorem Kb.below {H r1 r2:Nat} {la ll:List Int} {w w':World} (h:Kb H r1 r2 la ll w) (g:Below w.heap.size w w'):Kb H r1 r2 la ll w' :=
 ⟨(g.cell (p:=⟨H,0,none⟩) h.lt).trans h.d0,(g.cell (p:=⟨H,1,none⟩) h.lt).trans h.d1,h.R1.below g,h.R2.below g,Nat.lt_of_lt_of_le h.lt g.size,fun j=>(g.frozen (p:=⟨H,j,none⟩) h.lt).trans (h.free j)⟩
theorem Kb.made (w:World) (x y z u v s:Int):Kb (w.heap.size+1+1) w.heap.size (w.heap.size+1) [x,y,z] [u,v,s] (((w.alloc (.cells #[.int .i64 x,.int .i64 y,.int .i64 z] 3)).alloc (.cells #[.int .i64 u,.int .i64 v,.int .i64 s] 3)).alloc (.cells #[.slice (some ⟨w.heap.size,0,none⟩) 3 3,.slice (some ⟨w.heap.size+1,0,none⟩) 3 3] 74)):=by
 have e2:=World.alloc_heap_new ((w.alloc (.cells #[.int .i64 x,.int .i64 y,.int .i64 z] 3)).alloc (.cells #[.int .i64 u,.int .i64 v,.int .i64 s] 3)) (.cells #[.slice (some ⟨w.heap.size,0,none⟩) 3 3,.slice (some ⟨w.heap.size+1,0,none⟩) 3 3] 74)
 rw [World.size_alloc,World.size_alloc] at e2
 have e1:=World.alloc_heap_new (w.alloc (.cells #[.int .i64 x,.int .i64 y,.int .i64 z] 3)) (.cells #[.int .i64 u,.int .i64 v,.int .i64 s] 3)
 rw [World.size_alloc] at e1
 have e0:=World.alloc_heap_new w (.cells #[.int .i64 x,.int .i64 y,.int .i64 z] 3)
 have k1:=(Below.heap_alloc ((w.alloc (.cells #[.int .i64 x,.int .i64 y,.int .i64 z] 3)).alloc (.cells #[.int .i64 u,.int .i64 v,.int .i64 s] 3)) (.cells #[.slice (some ⟨w.heap.size,0,none⟩) 3 3,.slice (some ⟨w.heap.size+1,0,none⟩) 3 3] 74) (w.heap.size+1) (by simp)).trans e1
 have k0:=(Below.heap_alloc ((w.alloc (.cells #[.int .i64 x,.int .i64 y,.int .i64 z] 3)).alloc (.cells #[.int .i64 u,.int .i64 v,.int .i64 s] 3)) (.cells #[.slice (some ⟨w.heap.size,0,none⟩) 3 3,.slice (some ⟨w.heap.size+1,0,none⟩) 3 3] 74) w.heap.size (by simp;omega)).trans ((Below.heap_alloc _ (.cells #[.int .i64 u,.int .i64 v,.int .i64 s] 3) w.heap.size (by simp)).trans e0)
 exact ⟨cell_blk e2 0,cell_blk e2 1,row_kn k0 rfl rfl,row_kn k1 rfl rfl,by simp,frz_door e2⟩
theorem Kb.last {H r1 r2:Nat} {la ll:List Int} {w:World} (h:Kb H r1 r2 la ll w) (hr:r1<H) (x y z:Int):Kb H r1 w.heap.size la [x,y,z] ((w.alloc (.cells #[.int .i64 x,.int .i64 y,.int .i64 z] 3)).setCell ⟨H,1,none⟩ (.slice (some ⟨w.heap.size,0,none⟩) 3 3)):=by
 have hl:=h.lt
 have e0:=World.alloc_heap_new w (.cells #[.int .i64 x,.int .i64 y,.int .i64 z] 3)
 have g:=h.below (below_al1 w (.cells #[.int .i64 x,.int .i64 y,.int .i64 z] 3))
 have ho:∀ b,b≠H→∀ j,((w.alloc (.cells #[.int .i64 x,.int .i64 y,.int .i64 z] 3)).setCell ⟨H,1,none⟩ (.slice (some ⟨w.heap.size,0,none⟩) 3 3)).cell? ⟨b,j,none⟩=(w.alloc (.cells #[.int .i64 x,.int .i64 y,.int .i64 z] 3)).cell? ⟨b,j,none⟩:=fun b hb j=>World.cell?_of_block (a:=⟨b,j,none⟩) (Below.heap_setCell _ _ _ _ hb)
 have k0:=(Below.heap_setCell (w.alloc (.cells #[.int .i64 x,.int .i64 y,.int .i64 z] 3)) ⟨H,1,none⟩ (.slice (some ⟨w.heap.size,0,none⟩) 3 3) w.heap.size (by simp only;omega)).trans e0
 refine ⟨?_,World.cell?_setCell_same _ _ _ g.d1,?_,row_kn k0 rfl rfl,by rw [World.size_setCell];exact g.lt,fun j=>by rw [World.frozen?_setCell];exact g.free j⟩
 · exact (World.cell?_setCell_other _ _ _ _ (by simp)).trans g.d0
 · rcases g.R1 with h | ⟨b,off,c,e,hc,hb,hcs⟩
   · exact .inl h
   · simp only [Value.slice.injEq,Option.some.injEq,Addr.mk.injEq,and_true] at e
     obtain ⟨⟨rfl,rfl⟩,e2,rfl⟩:=e
     refine .inr ⟨r1,0,3,by rw [← e2],by omega,by rw [World.size_setCell];exact hb,fun j u hu=>?_⟩
     have:=hcs j u hu
     have ha:(⟨r1,0,none⟩:Addr).add j=⟨r1,0+j,none⟩:=by simp [Addr.add];exact fun h=>h.symm
     rw [ha] at this ⊢
     exact (ho r1 (by omega) _).trans this
theorem door_yes (w:World):Calls Tryz.prog 13 #[] w (AnyP w):=(door_any w).mono fun e w' ⟨p,he,hm,hb⟩=>⟨doorM,p,he,door_ok,hm,hb⟩
theorem deep_at (n:Nat) (i:Int) (hi:(n:Int)=i) (hn:n≤1000) (w:World):Calls Tryz.prog 14 #[.int .i64 i] w (MadeP (deepM n) w):=by
 subst hi;exact deep_any n hn w
end Go.Proofs
