/- Walks: 'index.New'. -/
import Derived.Test.YtiimoclbmaggjaaGreatDoorLIxSE
namespace Go.Proofs
open Go.RowKit Go.Lx Go.Md Go.Shelf Go.Rfu Go.Rgi
set_option linter.unusedVariables false
theorem info_Place:(Tryz.prog.info? 108).map (fun i=>(i.zero,i.size,i.bytes))=some (some (.agg placeZ),7,80):=by kernel_rfl
theorem info_Ints:(Tryz.prog.info? 31).map (fun i=>(i.zero,i.size,i.bytes))=some (some (.slice none 0 0),1,24):=by kernel_rfl
theorem two_allocs (W:World) (o:Obj) (v:Value) (T:TypeId):(((W.alloc o).alloc (.cells #[v] T)).drew).cell? ⟨W.heap.size+1,0,none⟩=some v∧(((W.alloc o).alloc (.cells #[v] T)).drew).frozen? ⟨W.heap.size+1,0,none⟩=false:=by
 have h:=World.alloc_heap_new (W.alloc o) (.cells #[v] T)
 rw [World.size_alloc] at h
 constructor
 · show ((W.alloc o).alloc (.cells #[v] T)).cell? _=_;unfold World.cell?;simp only [h];rfl
 · show ((W.alloc o).alloc (.cells #[v] T)).frozen? _=_;unfold World.frozen?;simp only [h];rfl
attribute [local go_sem] Oper.semAt_some
def fr4 (m:MdlD) (p:Ph) (H:Nat) (u27 u28 u29 u30 u31 u32 u33 u34 u35 u36 u37 u38 u7:Value):Act:={ tmps:=#[(.agg #[.string m.nm,.slice p.a1 m.vars.length p.c1,.slice p.a2 m.evs.length p.c2,.slice p.a3 m.regs.length p.c3,.slice p.a4 m.vers.length p.c4,.slice p.a5 m.trns.length p.c5]),.pointer (some ⟨H,0,none⟩),.pointer none,.int .i64 0,.int .u8 0,.int .i64 0,.int .i64 0,u7,undef,undef,undef,undef,undef,undef,undef,undef,undef,undef,(.tuple #[.int .u8 0,.int .i64 0,.int .i64 0]),(.agg #[.string m.nm,.slice p.a1 m.vars.length p.c1,.slice p.a2 m.evs.length p.c2,.slice p.a3 m.regs.length p.c3,.slice p.a4 m.vers.length p.c4,.slice p.a5 m.trns.length p.c5]),(.tuple #[.int .u8 0,.int .i64 0,.int .i64 0]),.int .u8 0,.int .i64 0,.int .i64 0,.int .i64 0,.bool false,undef,u27,u28,u29,u30,u31,u32,u33,u34,u35,u36,u37,u38,undef,undef,undef,undef,undef,undef,undef,undef,undef,undef,undef,undef,undef,undef,undef,undef,undef,undef,undef,undef,undef,undef,undef,undef,undef,undef,undef,undef,undef,undef,undef,undef,undef,undef,undef,undef,undef,undef,undef,undef,undef,undef,undef,undef,undef,undef,undef,undef,undef,undef,undef,undef,undef,undef,undef,undef,undef,undef,undef,undef,undef,undef,undef,undef,undef,undef,undef,undef,undef,undef,undef,undef,undef,undef,undef,undef,undef,undef,undef,undef,undef,undef,undef,undef,undef,undef,undef,undef,undef,undef,undef,undef,undef,undef,undef,undef,undef,undef,undef,undef,undef,undef,undef,undef,undef,undef,undef,undef,undef,undef,undef,undef,undef,undef,undef,undef,undef,undef,undef,undef,undef,undef,undef,undef,undef,undef,undef,undef,undef,undef,undef,undef,undef,undef,undef,undef,undef,undef,undef,undef,undef,undef,undef,undef,undef,undef,undef,undef,undef,undef,undef,undef,undef,undef,undef,undef,undef,undef,undef,undef,undef,undef,undef,undef,undef,undef,undef,undef,undef,undef,undef,undef,undef,undef,undef,undef,undef,undef,undef,undef,undef,undef,undef,undef,undef,undef,undef,undef,undef,undef,undef,undef,undef,undef,undef],defers:=[] }
def I4 (W:World) (m:MdlD) (p:Ph) (H:Nat) (l:Array Bool) (a:Act) (w:World):Prop :=
 ∃ (PB KB MO MP IB XB:Nat) (l0 l1 l2 l3 l4 l5 l6 l7 l8 l9 l10 l11 l12 l13:Bool) (u27 u28 u29 u30 u31 u32 u33 u34 u35 u36 u37 u38 u7:Value),l=#[l0,l1,l2,l3,l4,l5,l6,l7,l8,l9,l10,l11,l12,l13]∧a=fr4 m p H u27 u28 u29 u30 u31 u32 u33 u34 u35 u36 u37 u38 u7∧J4 W m p H PB KB MO MP IB XB l0 l1 l2 l3 l4 l5 l6 l7 l8 l9 l10 l11 l12 l13 u27 u28 u29 u30 u31 u32 u33 u34 u35 u36 u37 u38 u7 w

set_option maxRecDepth 100000 in
set_option maxHeartbeats 8000000 in
theorem new_right {Q:Nat→BP} (m:MdlD) (p:Ph) (w:World) (h1:Mod Q w m p) (hm:MdlOk m) (hT:Tab w) (h0:riM m=(0,0,0)) (hv:m.vers.length≤512) (hr:m.regs.length≤512) (ht:m.trns.length≤512) :
   Calls Tryz.prog 89 #[mdV m p] w fun e w'=>∃ IB,e=.returned (.tuple #[.pointer (some ⟨IB,0,none⟩),.int .i64 0])∧Below w.heap.size w w'∧IdxAt w.heap.size m IB w':=by
 have R1:=Lib.hid (fun wx (hb:Below w.heap.size w wx)=>right_any m p wx (h1.below hb) (hT.next hb) hm)
 have B0:Hid (∀ wx,Below (w.alloc (.cells #[.string m.nm,.slice p.a1 m.vars.length p.c1,.slice p.a2 m.evs.length p.c2,.slice p.a3 m.regs.length p.c3,.slice p.a4 m.vers.length p.c4,.slice p.a5 m.trns.length p.c5] 28)).heap.size (w.alloc (.cells #[.string m.nm,.slice p.a1 m.vars.length p.c1,.slice p.a2 m.evs.length p.c2,.slice p.a3 m.regs.length p.c3,.slice p.a4 m.vers.length p.c4,.slice p.a5 m.trns.length p.c5] 28)) wx→Below w.heap.size w wx∧Box wx w.heap.size (.string m.nm) (.slice p.a1 m.vars.length p.c1) (.slice p.a2 m.evs.length p.c2) (.slice p.a3 m.regs.length p.c3) (.slice p.a4 m.vers.length p.c4) (.slice p.a5 m.trns.length p.c5)):=fun wx g=>⟨below_bx1 g,(box6 w m p).below g (by simp)⟩
 have HMod:Hid (∀ wx,Below w.heap.size w wx→Mod (fun _=>OldB w.heap.size) wx m p):=fun wx g=>(h1.weaken fun _ _ h _=>h).below g
 rw [h0] at R1
 unfold mdV at R1 ⊢
 have hregs:=Lib.hid hm.rego
 have hverx:=Lib.hid hm.verx
 have htrnx:=Lib.hid hm.trnx
 clear h1 hm hT
 refine calls_of_marks Tryz.func89 rfl ?_
 simp only [Tryz.ntmps89,List.size_toArray,List.length_cons,List.length_nil,Nat.reduceAdd,Nat.reduceSub,Array.replicate_succ,Array.replicate_zero,List.push_toArray,List.append_toArray,List.nil_append,List.cons_append]
 let HText:Prop:=bodyPost Tryz.prog Tryz.f89 (fun _ _=>True) .ret { tmps:=#[],defers:=[] } w
 go_wp2_with fail
 refine (R1.out _ (below_al1 w _)).mono ?_
 rintro e w4 ⟨rfl,g4⟩
 have H4:=Lib.hid (B0.out w4 g4)
 clear g4 B0 R1
 go_upto_region 4 with fail
 have hzH:w.heap.size<w4.heap.size:=H4.out.2.sl
 go_cut [7] (fun s7 wx=>R4S w4 m s7 wx)
 case first =>
  as_aux_lemma =>
    refine Rgi.wp_region_inv (by kernel_rfl) (I4 w4 m p w.heap.size) (by kernel_rfl) ?h0 ?hstep ?hend
    case h0 =>
     refine ⟨0,0,0,0,0,0,false,false,false,false,false,false,false,false,false,false,false,false,false,false,_,_,_,_,_,_,_,_,_,_,_,_,_,rfl,rfl,?_⟩
     constructor <;> first | exact (Below.refl _ _).drew | (intro h;cases h)
    case hstep =>
     obtain ⟨iP,hiP,zP0,zP1,zP2⟩:=info_parts info_Place
     obtain ⟨iK,hiK,zK0,zK1,zK2⟩:=info_parts info_Ints
     have hmm:=@run_makeMap Tryz.prog
     have mk1:∀ W:World,(Instr.makeSlice 109 (.int .i64 m.vers.length) (.int .i64 m.vers.length)).run Tryz.prog W=.ok (.slice (some ⟨W.heap.size,0,none⟩) m.vers.length m.vers.length) (W.alloc (placesO m.vers.length)):=fun W=>by
       have:=run_makeSlice (P:=Tryz.prog) W 109 108 iP _ Tryz.underlying109 hiP zP0 .i64 .i64 m.vers.length m.vers.length (by omega) (by omega) (by rw [zP1];omega) (by rw [zP2];omega) (by omega)
       rw [zP1] at this
       exact this
     have mk2:∀ W:World,(Instr.makeSlice 110 (.int .i64 m.regs.length) (.int .i64 m.regs.length)).run Tryz.prog W=.ok (.slice (some ⟨W.heap.size,0,none⟩) m.regs.length m.regs.length) (W.alloc (kidsO m.regs.length)):=fun W=>by
       have:=run_makeSlice (P:=Tryz.prog) W 110 31 iK _ Tryz.underlying110 hiK zK0 .i64 .i64 m.regs.length m.regs.length (by omega) (by omega) (by rw [zK1];omega) (by rw [zK2];omega) (by omega)
       rw [zK1] at this
       exact this
     intro l a wx hs hI k o ho hl he
     obtain ⟨PB,KB,MO,MP,IB,XB,l0,l1,l2,l3,l4,l5,l6,l7,l8,l9,l10,l11,l12,l13,u27,u28,u29,u30,u31,u32,u33,u34,u35,u36,u37,u38,u7,rfl,rfl,hJ⟩:=hI
     have hi:k<14:=(Array.getElem?_eq_some_iff.1 ho).1
     have hi12:k=0∨k=1∨k=2∨k=3∨k=4∨k=5∨k=6∨k=7∨k=8∨k=9∨k=10∨k=11∨k=12∨k=13:=by omega
     clear hi hs
     rcases hi12 with rfl | rfl | rfl | rfl | rfl | rfl | rfl | rfl | rfl | rfl | rfl | rfl | rfl | rfl
     · simp only [List.getElem?_toArray,List.getElem?_cons_zero,Option.some.injEq] at ho
       subst ho
       refine Rgi.step_of rfl fun K hK=>?_
       unfold fr4 at hK ⊢
       rw [if_pos (by rfl)]
       go_simp
       exact hK _ _ ⟨PB,KB,MO,MP,IB,XB,_,_,_,_,_,_,_,_,_,_,_,_,_,_,_,_,_,_,_,_,_,_,_,_,_,_,_,rfl,rfl,J4.read0 hJ⟩
     · simp only [List.getElem?_toArray,List.getElem?_cons_zero,List.getElem?_cons_succ,Option.some.injEq] at ho
       subst ho
       have c0:l0=true:=he { on:=0,ground:=.data } (by simp) (by decide)
       obtain rfl:=hJ.v0 c0
       obtain ⟨b0,b1,b2,b3,b4,b5,f0,f1,f2,f3,f4,f5⟩:=H4.out.2.below hJ.bel hzH
       refine Rgi.step_of rfl fun K hK=>?_
       unfold fr4 at hK ⊢
       rw [if_pos (by rfl)]
       go_simp
       exact hK _ _ ⟨PB,KB,MO,MP,IB,XB,_,_,_,_,_,_,_,_,_,_,_,_,_,_,_,_,_,_,_,_,_,_,_,_,_,_,_,rfl,rfl,J4.read1 hJ⟩
     · simp only [List.getElem?_toArray,List.getElem?_cons_zero,List.getElem?_cons_succ,Option.some.injEq] at ho
       subst ho
       have c1:l1=true:=he { on:=1,ground:=.data } (by simp) (by decide)
       obtain rfl:=hJ.v1 c1
       refine Rgi.step_of rfl fun K hK=>?_
       unfold fr4 at hK ⊢
       rw [if_pos (by rfl)]
       go_simp
       exact hK _ _ ⟨PB,KB,MO,MP,IB,XB,_,_,_,_,_,_,_,_,_,_,_,_,_,_,_,_,_,_,_,_,_,_,_,_,_,_,_,rfl,rfl,J4.read2 hJ⟩
     · simp only [List.getElem?_toArray,List.getElem?_cons_zero,List.getElem?_cons_succ,Option.some.injEq] at ho
       subst ho
       have c2:l2=true:=he { on:=2,ground:=.data } (by simp) (by decide)
       obtain rfl:=hJ.v2 c2
       refine Rgi.step_of rfl fun K hK=>?_
       unfold fr4 at hK ⊢
       rw [if_pos (by rfl)]
       go_simp
       exact hK _ _ ⟨wx.heap.size,KB,MO,MP,IB,XB,_,_,_,_,_,_,_,_,_,_,_,_,_,_,_,_,_,_,_,_,_,_,_,_,_,_,_,rfl,rfl,J4.alloc3 hJ hl⟩
     · simp only [List.getElem?_toArray,List.getElem?_cons_zero,List.getElem?_cons_succ,Option.some.injEq] at ho
       subst ho
       refine Rgi.step_of rfl fun K hK=>?_
       unfold fr4 at hK ⊢
       rw [if_pos (by rfl)]
       go_simp
       exact hK _ _ ⟨PB,KB,MO,MP,IB,XB,_,_,_,_,_,_,_,_,_,_,_,_,_,_,_,_,_,_,_,_,_,_,_,_,_,_,_,rfl,rfl,J4.read4 hJ⟩
     · simp only [List.getElem?_toArray,List.getElem?_cons_zero,List.getElem?_cons_succ,Option.some.injEq] at ho
       subst ho
       have c4:l4=true:=he { on:=4,ground:=.data } (by simp) (by decide)
       obtain rfl:=hJ.v4 c4
       obtain ⟨b0,b1,b2,b3,b4,b5,f0,f1,f2,f3,f4,f5⟩:=H4.out.2.below hJ.bel hzH
       refine Rgi.step_of rfl fun K hK=>?_
       unfold fr4 at hK ⊢
       rw [if_pos (by rfl)]
       go_simp
       exact hK _ _ ⟨PB,KB,MO,MP,IB,XB,_,_,_,_,_,_,_,_,_,_,_,_,_,_,_,_,_,_,_,_,_,_,_,_,_,_,_,rfl,rfl,J4.read5 hJ⟩
     · simp only [List.getElem?_toArray,List.getElem?_cons_zero,List.getElem?_cons_succ,Option.some.injEq] at ho
       subst ho
       have c5:l5=true:=he { on:=5,ground:=.data } (by simp) (by decide)
       obtain rfl:=hJ.v5 c5
       refine Rgi.step_of rfl fun K hK=>?_
       unfold fr4 at hK ⊢
       rw [if_pos (by rfl)]
       go_simp
       exact hK _ _ ⟨PB,KB,MO,MP,IB,XB,_,_,_,_,_,_,_,_,_,_,_,_,_,_,_,_,_,_,_,_,_,_,_,_,_,_,_,rfl,rfl,J4.read6 hJ⟩
     · simp only [List.getElem?_toArray,List.getElem?_cons_zero,List.getElem?_cons_succ,Option.some.injEq] at ho
       subst ho
       have c6:l6=true:=he { on:=6,ground:=.data } (by simp) (by decide)
       obtain rfl:=hJ.v6 c6
       refine Rgi.step_of rfl fun K hK=>?_
       unfold fr4 at hK ⊢
       rw [if_pos (by rfl)]
       go_simp
       exact hK _ _ ⟨PB,wx.heap.size,MO,MP,IB,XB,_,_,_,_,_,_,_,_,_,_,_,_,_,_,_,_,_,_,_,_,_,_,_,_,_,_,_,rfl,rfl,J4.alloc7 hJ hl⟩
     · simp only [List.getElem?_toArray,List.getElem?_cons_zero,List.getElem?_cons_succ,Option.some.injEq] at ho
       subst ho
       refine Rgi.step_of rfl fun K hK=>?_
       unfold fr4 at hK ⊢
       rw [if_pos (by rfl)]
       go_simp
       exact hK _ _ ⟨PB,KB,wx.heap.size,MP,IB,XB,_,_,_,_,_,_,_,_,_,_,_,_,_,_,_,_,_,_,_,_,_,_,_,_,_,_,_,rfl,rfl,J4.alloc8 hJ hl⟩
     · simp only [List.getElem?_toArray,List.getElem?_cons_zero,List.getElem?_cons_succ,Option.some.injEq] at ho
       subst ho
       refine Rgi.step_of rfl fun K hK=>?_
       unfold fr4 at hK ⊢
       rw [if_pos (by rfl)]
       go_simp
       exact hK _ _ ⟨PB,KB,MO,wx.heap.size,IB,XB,_,_,_,_,_,_,_,_,_,_,_,_,_,_,_,_,_,_,_,_,_,_,_,_,_,_,_,rfl,rfl,J4.alloc9 hJ hl⟩
     · simp only [List.getElem?_toArray,List.getElem?_cons_zero,List.getElem?_cons_succ,Option.some.injEq] at ho
       subst ho
       have c3:l3=true:=he { on:=3,ground:=.data } (by simp) (by decide)
       have c7:l7=true:=he { on:=7,ground:=.data } (by simp) (by decide)
       have c8:l8=true:=he { on:=8,ground:=.data } (by simp) (by decide)
       have c9:l9=true:=he { on:=9,ground:=.data } (by simp) (by decide)
       obtain rfl:=(hJ.x3 c3).is
       obtain rfl:=(hJ.x7 c7).is
       obtain rfl:=(hJ.x8 c8).is
       obtain rfl:=(hJ.x9 c9).is
       refine Rgi.step_of rfl fun K hK=>?_
       unfold fr4 at hK ⊢
       rw [if_pos (by rfl)]
       go_simp
       exact hK _ _ ⟨PB,KB,MO,MP,IB,XB,_,_,_,_,_,_,_,_,_,_,_,_,_,_,_,_,_,_,_,_,_,_,_,_,_,_,_,rfl,rfl,J4.build hJ ⟨c3,c7,c8,c9⟩⟩
     · simp only [List.getElem?_toArray,List.getElem?_cons_zero,List.getElem?_cons_succ,Option.some.injEq] at ho
       subst ho
       have c10:l10=true:=he { on:=10,ground:=.data } (by simp) (by decide)
       obtain rfl:=hJ.v10 c10
       refine Rgi.step_of rfl fun K hK=>?_
       unfold fr4 at hK ⊢
       rw [if_pos (by rfl)]
       go_simp
       exact hK _ _ ⟨PB,KB,MO,MP,wx.heap.size,XB,_,_,_,_,_,_,_,_,_,_,_,_,_,_,_,_,_,_,_,_,_,_,_,_,_,_,_,rfl,rfl,J4.alloc11 hJ hl c10⟩
     · simp only [List.getElem?_toArray,List.getElem?_cons_zero,List.getElem?_cons_succ,Option.some.injEq] at ho
       subst ho
       refine Rgi.step_of rfl fun K hK=>?_
       unfold fr4 at hK ⊢
       rw [if_pos (by rfl)]
       go_simp
       exact hK _ _ ⟨PB,KB,MO,MP,IB,wx.heap.size,_,_,_,_,_,_,_,_,_,_,_,_,_,_,_,_,_,_,_,_,_,_,_,_,_,_,_,rfl,rfl,J4.alloc12 hJ hl⟩
     · simp only [List.getElem?_toArray,List.getElem?_cons_zero,List.getElem?_cons_succ,Option.some.injEq] at ho
       subst ho
       have c12:l12=true:=he { on:=12,ground:=.data } (by simp) (by decide)
       have c11:l11=true:=he { on:=11,ground:=.data } (by simp) (by decide)
       obtain rfl:=(hJ.x11 c11).is
       have h13:l13=false:=hl
       have hx:=hJ.x12 c12 h13
       obtain rfl:=hx.is
       have hc0:wx.cell? ⟨XB,0,none⟩=some (.pointer none):=by unfold World.cell?;simp only [hx.ob];rfl
       have hf0:wx.frozen? ⟨XB,0,none⟩=false:=by unfold World.frozen?;simp [hx.ob]
       have hxo:=hx.ob
       have hxl:=hx.hi
       have hst:Bk w4.heap.size (wx.setCell ⟨XB,0,none⟩ (.pointer (some ⟨IB,0,none⟩))) (.pointer (some ⟨XB,0,none⟩)) (.pointer (some ⟨XB,0,none⟩)) XB (.cells #[.pointer (some ⟨IB,0,none⟩)] 45 (0,0)) :=
         ⟨rfl,hx.lo,by simpa using hx.hi,by unfold World.setCell;simp only [Array.getElem?_modify,if_true,hx.ob,Option.map_some];rfl⟩
       have HN:=Lib.hid (J4.store hJ c12 c11 (setCell_meta _ _ _) (by simp) (fun b hb _=>Below.heap_setCell wx ⟨XB,0,none⟩ _ b hb) hst)
       clear hx hst hxo hJ
       refine Rgi.step_of rfl fun K hK=>?_
       unfold fr4 at hK ⊢
       rw [if_pos (by rfl)]
       go_simp
       exact hK _ _ ⟨PB,KB,MO,MP,IB,XB,_,_,_,_,_,_,_,_,_,_,_,_,_,_,_,_,_,_,_,_,_,_,_,_,_,_,_,rfl,rfl,HN.out⟩
    case hend =>
     intro l a wx hI hall
     obtain ⟨PB,KB,MO,MP,IB,XB,l0,l1,l2,l3,l4,l5,l6,l7,l8,l9,l10,l11,l12,l13,u27,u28,u29,u30,u31,u32,u33,u34,u35,u36,u37,u38,u7,rfl,rfl,hJ⟩:=hI
     have h3:l3=true:=hall 3 (by decide)
     have h7:l7=true:=hall 7 (by decide)
     have h8:l8=true:=hall 8 (by decide)
     have h9:l9=true:=hall 9 (by decide)
     have h11:l11=true:=hall 11 (by decide)
     have h12:l12=true:=hall 12 (by decide)
     have h13:l13=true:=hall 13 (by decide)
     have HRR:Hid (R4S w4 m u7 wx):=⟨PB,KB,MO,MP,IB,XB,⟨hJ.bel,(hJ.x3 h3).ob,(hJ.x7 h7).ob,(hJ.x8 h8).ob,(hJ.x9 h9).ob,(hJ.x11 h11).ob,(hJ.x13 h13).ob,⟨(hJ.x3 h3).lo,(hJ.x7 h7).lo,(hJ.x8 h8).lo,(hJ.x9 h9).lo,(hJ.x11 h11).lo,(hJ.x13 h13).lo⟩,⟨hJ.n3_7 h3 h7,hJ.n3_8 h3 h8,hJ.n3_9 h3 h9,hJ.n3_11 h3 h11,hJ.n3_12 h3 h12⟩,⟨hJ.n7_8 h7 h8,hJ.n7_9 h7 h9,hJ.n7_11 h7 h11,hJ.n7_12 h7 h12⟩,⟨hJ.n8_9 h8 h9,hJ.n8_11 h8 h11,hJ.n8_12 h8 h12⟩,⟨hJ.n9_11 h9 h11,hJ.n9_12 h9 h12⟩,hJ.n11_12 h11 h12⟩,(hJ.x13 h13).is⟩
     clear hJ hall
     unfold fr4
     go_wp2_with fail
     go_meet
     exact HRR.out
 case rest =>
  obtain ⟨W5,hW5,hcut⟩:∃ W5:World,W5=_∧R4S w4 m _ W5:=⟨_,rfl,hcut⟩
  subst hW5
  obtain ⟨PB,KB,MO,MP,IB,XB,h5,rfl⟩:=hcut
  have hz5:w4.heap.size≤W5.heap.size:=h5.bel.size
  obtain ⟨N1,hN1⟩:∃ N1,N1=W5.heap.size:=⟨_,rfl⟩
  have HD:Hid (Dst w4.heap.size N1 PB KB MO MP IB XB):=by rw [hN1];exact h5.dst
  have HS5:Hid (IxSt w4 m.vers.length m.regs.length N1 PB KB MO MP IB XB (fun _=>pl0) (fun _=>[]) (fun _=>.slice none 0 0) 0 0 W5):=by rw [hN1];exact h5.start
  rw [← hN1] at hz5
  have HBoxM:Hid (∀ wx,Below w4.heap.size w4 wx→Box wx w.heap.size (.string m.nm) (.slice p.a1 m.vars.length p.c1) (.slice p.a2 m.evs.length p.c2) (.slice p.a3 m.regs.length p.c3) (.slice p.a4 m.vers.length p.c4) (.slice p.a5 m.trns.length p.c5)):=fun wx g=>H4.out.2.below g hzH
  have HBel:Hid (∀ wx,Below w4.heap.size w4 wx→Below w.heap.size w wx):=fun wx g=>H4.out.1.trans (g.mono H4.out.1.size)
  obtain ⟨iI,hiI,zI0,zI1,zI2⟩:=info_parts info_Num
  obtain ⟨x0,x1,x2,x3,x4,x5,_⟩:=HBoxM.out W5 h5.bel
  obtain ⟨hPB,hKB,hMO,hMP,hIB,hXB⟩:=HD.out.hi
  clear h5 hN1 hcut
  go_wp2_with fail
  go_loopw [42] (fun i wr=>∃ (k:Nat) (V:RI→Value),k≤m.regs.length∧i=.int .i64 k∧IxSt w4 m.vers.length m.regs.length N1 PB KB MO MP IB XB (fun _=>pl0) (F1 m k) V k 0 wr) (fun i _=>m.regs.length - (intOf i).toNat)
  case atStart=>exact ⟨0,_,by omega,rfl,by rw [F1_zero];exact HS5.out⟩
  case round =>
   clear x0 x1 x2 x3 x4 x5 HS5
   obtain ⟨wo,rfl⟩:∃ wo:World,wo=wr:=⟨_,rfl⟩
   obtain ⟨k,V,hk,rfl,hst⟩:=hrel
   have HI:=Lib.hid hst
   clear hst
   by_cases hlt:k<m.regs.length
   · as_aux_lemma =>
       have hltI:(k:Int)<(m.regs.length:Int):=by omega
       have hi0:(0:Int)≤(k:Int):=by omega
       obtain ⟨b1,o1,ha1,hb1,hc1⟩:=(HMod.out wo (HBel.out wo HI.out.bel)).regs.get hlt
       have HF:=Lib.hid (F1_step m hlt)
       have hrg:=hregs.out m.regs[k] (List.getElem_mem hlt)
       obtain ⟨x,hx⟩:∃ x,x=m.regs[k]:=⟨_,rfl⟩
       rw [← hx] at hc1 HF hrg
       obtain ⟨r0,r1⟩:=hc1
       obtain ⟨x0,x1,x2,x3,x4,x5,_⟩:=HBoxM.out wo HI.out.bel
       have hws:(Lit.int .i64 x.own).wf=true:=WalkArith.wf_i64 hrg
       rw [ha1] at x3
       rw [ha1]
       clear hx ha1
       go_upto_region 8 with fail
       have HN9:Hid (∀ i,(V i).ownBlock≠some wo.heap.size):=fun i e=>by have:=(HI.out.rw.lt e).2;omega
       have HI1:=Lib.hid (HI.out.grown HD.out (below_al1 wo (.cells #[.string x.nm,.int .i64 x.own] 37)))
       have c9:(wo.alloc (.cells #[.string x.nm,.int .i64 x.own] 37)).cell? ⟨wo.heap.size,1,none⟩=some (.int .i64 x.own):=by simp
       have hz9:wo.heap.size<(wo.alloc (.cells #[.string x.nm,.int .i64 x.own] 37)).heap.size:=by simp
       generalize wo.alloc (.cells #[.string x.nm,.int .i64 x.own] 37)=W1 at *
       have e1:=HI1.out.x
       obtain ⟨e2,e3,e4,e5⟩:=HI1.out.idx
       have hlen:=F1_len m k (.own,x.own)
       have hzW1:=HI1.out.z
       have hIBz:IB<W1.heap.size:=by omega
       have hXBz:XB<W1.heap.size:=by omega
       have HLook:Hid (∀ w',w'.heap[MO]? = W1.heap[MO]? → (Instr.lookup 111 (.map (some MO)) (.int .i64 x.own) false).run Tryz.prog w'=.ok (V (.own,x.own)) w'):=fun w' h=>MapAt.look (HI1.out.mo.keep h) hws
       have HS:Hid (∀ w',Below N1 W1 w'→w'.cell? ⟨wo.heap.size,1,none⟩=some (.int .i64 x.own)→w'.cell? ⟨XB,0,none⟩=some (.pointer (some ⟨IB,0,none⟩))∧w'.cell? ⟨IB,2,none⟩=some (.map (some MO))∧w'.cell? ⟨wo.heap.size,1,none⟩=some (.int .i64 x.own)∧(Instr.lookup 111 (.map (some MO)) (.int .i64 x.own) false).run Tryz.prog w'=.ok (V (.own,x.own)) w'):=fun w' h c =>
         ⟨(h.cell (p:=⟨XB,0,none⟩) hXB).trans e1,(h.cell (p:=⟨IB,2,none⟩) hIB).trans e4,c,HLook.out w' (h.block MO hMO)⟩
       have hne9:(V (.own,x.own)).ownBlock≠some wo.heap.size:=HN9.out (.own,x.own)
       have hown:=HI1.out.rw.own (.own,x.own)
       generalize hn:(F1 m k (.own,x.own)).length=nF at hown hlen
       have HPU:Hid (∀ (gg cap:Nat) w1,(W1.drew.alloc (.cells #[.int .i64 k] 3)).grownBy w1 (V (.own,x.own)).ownBlock→((V (.own,x.own)).ownBlock=some gg∨gg=W1.heap.size+1)→w1.ownsRow N1 3 1 (.slice (some ⟨gg,0,none⟩) (nF+1) cap) (nF+1) (nums (F1 m k (.own,x.own)) ++ [.int .i64 k]) →
           ∃ w2,(Instr.mapUpdate 111 (.map (some MO)) (.int .i64 x.own) (.slice (some ⟨gg,0,none⟩) (nF+1) cap)).run Tryz.prog w1=.ok () w2 ∧
             IxSt w4 m.vers.length m.regs.length N1 PB KB MO MP IB XB (fun _=>pl0) (F1 m (k+1)) (upd V (.own,x.own) (.slice (some ⟨gg,0,none⟩) (nF+1) cap)) (k+1) 0 w2):=by
         intro gg cap w1 h1 h2 h3
         rw [HF.out]
         subst hn
         exact push_own HI1.out HD.out hz5 (by omega) hws h1 h2 h3
       clear hn
       have HC10:Hid (∀ w1,(W1.drew.alloc (.cells #[.int .i64 k] 3)).grownBy w1 (V (.own,x.own)).ownBlock→Below N1 W1 w1∧w1.cell? ⟨wo.heap.size,1,none⟩=some (.int .i64 x.own)):=fun w1 hg =>
         ⟨HI1.out.app hg,(hg.cell_far ⟨wo.heap.size,1,none⟩ (by simp;omega) (fun e=>hne9 e.symm)).trans (((below_al1 W1.drew _).cell (p:=⟨wo.heap.size,1,none⟩) (by simpa using hz9)).trans c9)⟩
       have hB0:Below N1 W1 W1:=Below.refl _ _
       refine wp_region_any (by kernel_rfl) ?_
       change wpAny _ _ _ _ _ _ _ (World.drew _)
       refine wpAny_sink (n:=16) (o:=⟨none,.mapUpdate 111 (.tmp 50) (.tmp 52) (.tmp 62),0, "index.go:38", #[⟨3,.data⟩,⟨5,.data⟩,⟨15,.data⟩,⟨15,.chain⟩,⟨0,.phase⟩,⟨1,.phase⟩,⟨2,.phase⟩,⟨3,.phase⟩,⟨4,.phase⟩,⟨5,.phase⟩,⟨6,.phase⟩,⟨7,.phase⟩,⟨8,.phase⟩,⟨9,.phase⟩,⟨10,.phase⟩,⟨11,.phase⟩,⟨12,.phase⟩,⟨13,.phase⟩,⟨14,.phase⟩,⟨15,.phase⟩],none⟩) (ops':=#[⟨some 47,.load 45 (.tmp 7),45, "index.go:38", #[],none⟩,⟨some 48,.nilCheck (.tmp 47),0, "index.go:38", #[⟨0,.data⟩],none⟩,⟨some 49,.fieldAddr 113 (.tmp 48) 2,0, "index.go:38", #[⟨1,.data⟩],none⟩,⟨some 50,.load 111 (.tmp 49),111, "index.go:38", #[⟨2,.data⟩],none⟩,⟨some 51,.fieldAddr 37 (.tmp 9) 1,0, "index.go:38", #[],none⟩,⟨some 52,.load 3 (.tmp 51),3, "index.go:38", #[⟨4,.data⟩],none⟩,⟨some 53,.load 45 (.tmp 7),45, "index.go:38", #[],none⟩,⟨some 54,.nilCheck (.tmp 53),0, "index.go:38", #[⟨6,.data⟩],none⟩,⟨some 55,.fieldAddr 113 (.tmp 54) 2,0, "index.go:38", #[⟨7,.data⟩],none⟩,⟨some 56,.load 111 (.tmp 55),111, "index.go:38", #[⟨8,.data⟩],none⟩,⟨some 57,.fieldAddr 37 (.tmp 9) 1,0, "index.go:38", #[],none⟩,⟨some 58,.load 3 (.tmp 57),3, "index.go:38", #[⟨10,.data⟩],none⟩,⟨some 59,.lookup 111 (.tmp 56) (.tmp 58) false,31, "index.go:38", #[⟨9,.data⟩,⟨11,.data⟩],none⟩,⟨some 60,.move (.tmp 8),3, "index.go:38", #[],none⟩,⟨some 61,.buildSlice 31 1 #[(0,.tmp 60)],31, "index.go:38", #[⟨13,.data⟩],none⟩,⟨some 62,.call { callee:=.builtin .append,args:=#[.tmp 59,.tmp 61],argTypes:=#[31,31] },31, "index.go:38", #[⟨12,.data⟩,⟨14,.data⟩],none⟩]) (by decide) (by kernel_rfl) (by rfl) (by rfl) ?_
       refine wpAny_of_heldS (S:=(fun w'=>w'.cell? ⟨XB,0,none⟩=some (.pointer (some ⟨IB,0,none⟩))∧w'.cell? ⟨IB,2,none⟩=some (.map (some MO))∧w'.cell? ⟨wo.heap.size,1,none⟩=some (.int .i64 x.own)∧(Instr.lookup 111 (.map (some MO)) (.int .i64 x.own) false).run Tryz.prog w'=.ok (V (.own,x.own)) w')) ?_ (fun hHeld=>?_)
       · (try dsimp only) <;> (first | exact HS.out _ hB0 c9 | exact HS.out _ hB0.drew c9 | exact HS.out _ (hB0.drew.alloc hzW1 _) (((below_al1 W1.drew _).cell (p:=⟨wo.heap.size,1,none⟩) hz9).trans c9) | exact HS.out _ (HC10.out _ hgrow10).1 (HC10.out _ hgrow10).2)
       refine tk 0 rfl ?_
       try simp only [Act.put,lyA,lyZ,lyS]
       refine tk 1 rfl ?_
       try simp only [Act.put,lyA,lyZ,lyS]
       refine tk 2 rfl ?_
       try simp only [Act.put,lyA,lyZ,lyS]
       refine tk 3 rfl ?_
       try simp only [Act.put,lyA,lyZ,lyS]
       refine tk 4 rfl ?_
       try simp only [Act.put,lyA,lyZ,lyS]
       refine tk 5 rfl ?_
       try simp only [Act.put,lyA,lyZ,lyS]
       refine tk 6 rfl ?_
       try simp only [Act.put,lyA,lyZ,lyS]
       refine tk 7 rfl ?_
       try simp only [Act.put,lyA,lyZ,lyS]
       refine tk 8 rfl ?_
       try simp only [Act.put,lyA,lyZ,lyS]
       refine tk 9 rfl ?_
       try simp only [Act.put,lyA,lyZ,lyS]
       refine tk 10 rfl ?_
       try simp only [Act.put,lyA,lyZ,lyS]
       refine tk 11 rfl ?_
       try simp only [Act.put,lyA,lyZ,lyS]
       refine tk 13 rfl ?_
       try simp only [Act.put,lyA,lyZ,lyS]
       refine rdy [12,14] ?_
       refine rdC rfl (fun K hK=>?_) ?_
       (go_simp)
       refine hK.out _ _ ?_ (fun hH1=>?_)
       · (try dsimp only) <;> (first | exact HS.out _ hB0 c9 | exact HS.out _ hB0.drew c9 | exact HS.out _ (hB0.drew.alloc hzW1 _) (((below_al1 W1.drew _).cell (p:=⟨wo.heap.size,1,none⟩) hz9).trans c9) | exact HS.out _ (HC10.out _ hgrow10).1 (HC10.out _ hgrow10).2)
       clear hK K hHeld
       try simp only [Act.put,lyA,lyZ,lyS]
       refine rdy [14] ?_
       refine rdC rfl (fun K hK=>?_) ?_
       (go_simp)
       refine hK.out _ _ ?_ (fun hH2=>?_)
       · (try dsimp only) <;> (first | exact HS.out _ hB0 c9 | exact HS.out _ hB0.drew c9 | exact HS.out _ (hB0.drew.alloc hzW1 _) (((below_al1 W1.drew _).cell (p:=⟨wo.heap.size,1,none⟩) hz9).trans c9) | exact HS.out _ (HC10.out _ hgrow10).1 (HC10.out _ hgrow10).2)
       clear hK K hH1
       try simp only [Act.put,lyA,lyZ,lyS]
       refine rdy [15] ?_
       refine rdC rfl (fun K hK=>?_) ?_
       ((refine step_append_lies _ (by rfl) _ _ _ (by rfl) N1 3 iI _ 1 8 Tryz.underlying31 hiI zI0 zI1 zI2 rfl (by omega) _ nF (nums (F1 m k (.own,x.own))) (by rfl) ((hown.drew).alloc _) ⟨W1.heap.size,0,none⟩ 1 1 [.int .i64 k] (by rfl) (by rfl) (World.news_of_block (cs:=#[.int .i64 k]) (t:=3) (fr:=(0,0)) (alloc1_at W1.drew _)) (by simp [Value.oneCell']) (by omega) (by unfold maxLen;omega) (by omega) (by simp;omega) (W1.heap.size+1) (by simp) ?_;intro gg cap2 w10 hown10 hgrow10 hat10 hlt10;obtain ⟨w11,hrun11,hst11⟩:=HPU.out gg cap2 w10 hgrow10 hat10 hown10))
       refine hK.out _ _ ?_ (fun hH3=>?_)
       · (try dsimp only) <;> (first | exact HS.out _ hB0 c9 | exact HS.out _ hB0.drew c9 | exact HS.out _ (hB0.drew.alloc hzW1 _) (((below_al1 W1.drew _).cell (p:=⟨wo.heap.size,1,none⟩) hz9).trans c9) | exact HS.out _ (HC10.out _ hgrow10).1 (HC10.out _ hgrow10).2)
       clear hK K hH2
       try simp only [Act.put,lyA,lyZ,lyS]
       refine wpAnyH_done (by kernel_rfl) ?_ _
       rotate_left
       exact AllReadyH.nil
       exact AllReadyH.nil
       refine rdC rfl (fun K hK=>?_) ?_
       (go_simp)
       refine hK.out _ _ ?_ (fun hH4=>?_)
       · (try dsimp only) <;> (first | exact HS.out _ hB0 c9 | exact HS.out _ hB0.drew c9 | exact HS.out _ (hB0.drew.alloc hzW1 _) (((below_al1 W1.drew _).cell (p:=⟨wo.heap.size,1,none⟩) hz9).trans c9) | exact HS.out _ (HC10.out _ hgrow10).1 (HC10.out _ hgrow10).2)
       clear hK K hHeld
       try simp only [Act.put,lyA,lyZ,lyS]
       refine rdy [12] ?_
       refine rdC rfl (fun K hK=>?_) ?_
       (go_simp)
       refine hK.out _ _ ?_ (fun hH5=>?_)
       · (try dsimp only) <;> (first | exact HS.out _ hB0 c9 | exact HS.out _ hB0.drew c9 | exact HS.out _ (hB0.drew.alloc hzW1 _) (((below_al1 W1.drew _).cell (p:=⟨wo.heap.size,1,none⟩) hz9).trans c9) | exact HS.out _ (HC10.out _ hgrow10).1 (HC10.out _ hgrow10).2)
       clear hK K hH4
       try simp only [Act.put,lyA,lyZ,lyS]
       refine rdy [15] ?_
       refine rdC rfl (fun K hK=>?_) ?_
       ((refine step_append_lies _ (by rfl) _ _ _ (by rfl) N1 3 iI _ 1 8 Tryz.underlying31 hiI zI0 zI1 zI2 rfl (by omega) _ nF (nums (F1 m k (.own,x.own))) (by rfl) ((hown.drew).alloc _) ⟨W1.heap.size,0,none⟩ 1 1 [.int .i64 k] (by rfl) (by rfl) (World.news_of_block (cs:=#[.int .i64 k]) (t:=3) (fr:=(0,0)) (alloc1_at W1.drew _)) (by simp [Value.oneCell']) (by omega) (by unfold maxLen;omega) (by omega) (by simp;omega) (W1.heap.size+1) (by simp) ?_;intro gg cap2 w10 hown10 hgrow10 hat10 hlt10;obtain ⟨w11,hrun11,hst11⟩:=HPU.out gg cap2 w10 hgrow10 hat10 hown10))
       refine hK.out _ _ ?_ (fun hH6=>?_)
       · (try dsimp only) <;> (first | exact HS.out _ hB0 c9 | exact HS.out _ hB0.drew c9 | exact HS.out _ (hB0.drew.alloc hzW1 _) (((below_al1 W1.drew _).cell (p:=⟨wo.heap.size,1,none⟩) hz9).trans c9) | exact HS.out _ (HC10.out _ hgrow10).1 (HC10.out _ hgrow10).2)
       clear hK K hH5
       try simp only [Act.put,lyA,lyZ,lyS]
       refine wpAnyH_done (by kernel_rfl) ?_ _
       rotate_left
       exact AllReadyH.nil
       exact AllReadyH.nil
       exact AllReadyH.nil
       all_goals
         refine sinkQ_of fun K hK=>?_
         go_simp
         refine hK _ _ ?_
         go_wp2_with fail
         go_roundw
         case rel=>exact ⟨k+1,_,by omega,by go_num,hst11⟩
         case measure=>simp [intOf] <;> omega
   · have hke:k=m.regs.length:=by omega
     subst hke
     have hz:=HI.out.z
     obtain ⟨x0,x1,x2,x3,x4,x5,_⟩:=HBoxM.out wo HI.out.bel
     go_wp2_with fail
     have HI0:Hid (IxSt w4 m.vers.length m.regs.length N1 PB KB MO MP IB XB (pl2 m 0) (F2 m 0) V m.regs.length 0 wo):=by rw [pl2_zero,F2_zero];exact HI
     clear HI hlt hk hz
     go_loopw [67] (fun i wr=>∃ (k cp:Nat) (V:RI→Value),k≤m.vers.length∧cp≤k∧i=.int .i64 k∧IxSt w4 m.vers.length m.regs.length N1 PB KB MO MP IB XB (pl2 m k) (F2 m k) V m.regs.length cp wr) (fun i _=>m.vers.length - (intOf i).toNat)
     case atStart=>exact ⟨0,0,V,by omega,by omega,rfl,HI0.out⟩
     case round =>
      clear x0 x1 x2 x3 x4 x5 HI0 V
      obtain ⟨wo,rfl⟩:∃ wo:World,wo=wr:=⟨_,rfl⟩
      obtain ⟨k,cp,V,hk,hcp,rfl,hst⟩:=hrel
      have HI:=Lib.hid hst
      clear hst
      by_cases hlt:k<m.vers.length
      · as_aux_lemma =>
          have hltI:(k:Int)<(m.vers.length:Int):=by omega
          have hi0:(0:Int)≤(k:Int):=by omega
          have HV:=Lib.hid (ver_right h0 hlt)
          obtain ⟨b1,o1,ha1,hb1,hq1,hall1⟩:=(Or.resolve_left (HMod.out wo (HBel.out wo HI.out.bel)).vers.two (fun h=>by have:=h.1;omega)).2
          have hc1:=hall1 k hlt
          clear hall1
          have hrpos:=regs_pos h0
          obtain ⟨b3,o3,ha3,_,hq3,_⟩:=(Or.resolve_left (HMod.out wo (HBel.out wo HI.out.bel)).regs.two (fun h=>by have:=h.1;omega)).2
          have HR:=Lib.hid fun (wx:World) (hb:Below w4.heap.size w4 wx) s (hs:s<m.regs.length)=>by
            have:=(HMod.out wx (HBel.out wx hb)).regs.get hs
            rw [ha3] at this
            obtain ⟨b2,o2,ha2,_,hc2⟩:=this
            simp only [Option.some.injEq,Addr.mk.injEq,and_true] at ha2
            obtain ⟨rfl,rfl⟩:=ha2
            exact hc2
          have HX3:Hid (∀ wx,Below w4.heap.size w4 wx→wx.cell? ⟨w.heap.size,3,none⟩=some (.slice (some ⟨b3,o3,none⟩) m.regs.length p.c3)):=fun wx hb=>by
            obtain ⟨_,_,_,x3,_⟩:=HBoxM.out wx hb
            rw [ha3] at x3;exact x3
          rw [ha3]
          have HG:=Lib.hid fun (wx:World) (hb:Below w4.heap.size w4 wx) s (hs:s<m.vers.length)=>by
            have:=(HMod.out wx (HBel.out wx hb)).vers.get hs
            rw [ha1] at this
            obtain ⟨b2,o2,ha2,_,hc2⟩:=this
            simp only [Option.some.injEq,Addr.mk.injEq,and_true] at ha2
            obtain ⟨rfl,rfl⟩:=ha2
            exact hc2
          have hrg:=hverx.out m.vers[k] (List.getElem_mem hlt)
          have HF1:=Lib.hid (fun h=>F2_pnt m hlt h)
          have HF2:=Lib.hid (fun h=>F2_kid m hlt h)
          have HPS:=Lib.hid (pl2_step m k)
          obtain ⟨x,hx⟩:∃ x,x=m.vers[k]:=⟨_,rfl⟩
          rw [← hx] at hc1 hrg HV HF1 HF2
          clear hx
          obtain ⟨dv,hdv,r0,r1,r2,r3,r4,r5,r6,r7⟩:=hc1
          obtain ⟨x0,x1,x2,x3,x4,x5,_⟩:=HBoxM.out wo HI.out.bel
          have HX4:Hid (∀ wx,Below w4.heap.size w4 wx→wx.cell? ⟨w.heap.size,4,none⟩=some (.slice (some ⟨b1,o1,none⟩) m.vers.length p.c4)):=fun wx hb=>by
            obtain ⟨_,_,_,_,x4,_⟩:=HBoxM.out wx hb
            rw [ha1] at x4;exact x4
          rw [ha1] at x4
          rw [ha1]
          obtain ⟨da,dc,rfl⟩:=hdv.len
          clear ha1 hdv ha3
          obtain ⟨e2,e3,e4,e5⟩:=HI.out.idx
          have e1:=HI.out.x
          have hzwo:=HI.out.z
          go_upto_region 13 with fail
          have HN9:Hid (∀ i,(V i).ownBlock≠some wo.heap.size):=fun i e=>by have:=(HI.out.rw.lt e).2;omega
          have HI1:=Lib.hid (HI.out.grown HD.out (below_al1 wo (.cells #[.string x.nm,.int .u8 x.kd,.int .i64 x.rg,.int .i64 x.ofv,.string x.en,.string x.ex,.slice da x.df.length dc,.string x.sb] 35)))
          have c1:(wo.alloc (.cells #[.string x.nm,.int .u8 x.kd,.int .i64 x.rg,.int .i64 x.ofv,.string x.en,.string x.ex,.slice da x.df.length dc,.string x.sb] 35)).cell? ⟨wo.heap.size,1,none⟩=some (.int .u8 x.kd):=by simp
          have c2:(wo.alloc (.cells #[.string x.nm,.int .u8 x.kd,.int .i64 x.rg,.int .i64 x.ofv,.string x.en,.string x.ex,.slice da x.df.length dc,.string x.sb] 35)).cell? ⟨wo.heap.size,2,none⟩=some (.int .i64 x.rg):=by simp
          have c3:(wo.alloc (.cells #[.string x.nm,.int .u8 x.kd,.int .i64 x.rg,.int .i64 x.ofv,.string x.en,.string x.ex,.slice da x.df.length dc,.string x.sb] 35)).cell? ⟨wo.heap.size,3,none⟩=some (.int .i64 x.ofv):=by simp
          have hz9:wo.heap.size<(wo.alloc (.cells #[.string x.nm,.int .u8 x.kd,.int .i64 x.rg,.int .i64 x.ofv,.string x.en,.string x.ex,.slice da x.df.length dc,.string x.sb] 35)).heap.size:=by simp
          generalize wo.alloc (.cells #[.string x.nm,.int .u8 x.kd,.int .i64 x.rg,.int .i64 x.ofv,.string x.en,.string x.ex,.slice da x.df.length dc,.string x.sb] 35)=W1 at *
          clear e1 e2 e3 e4 e5 x0 x1 x2 x3 x4 x5 r0 r1 r2 r3 r4 r5 r6 r7
          have e1:=HI1.out.x
          obtain ⟨e2,e3,e4,e5⟩:=HI1.out.idx
          have p3:=(HI1.out.pl k hlt).c3
          have p4:=(HI1.out.pl k hlt).c4
          rw [pl2_at] at p3 p4
          have pf:=HI1.out.pf
          have hz1:=HI1.out.z
          go_upto_region 14 with fail
          have hne:PB≠wo.heap.size:=by omega
          have HSt:Hid (∀ (w':World) (a:Addr) (u:Value),w'.cell? ⟨wo.heap.size,1,none⟩=some (.int .u8 x.kd)∧w'.cell? ⟨wo.heap.size,3,none⟩=some (.int .i64 x.ofv)→a.block=PB→(w'.setCell a u).cell? ⟨wo.heap.size,1,none⟩=some (.int .u8 x.kd)∧(w'.setCell a u).cell? ⟨wo.heap.size,3,none⟩=some (.int .i64 x.ofv)):=fun w' a u h ha =>
            ⟨(World.cell?_setCell_far _ _ _ _ (by simpa [ha] using hne)).trans h.1,(World.cell?_setCell_far _ _ _ _ (by simpa [ha] using hne)).trans h.2⟩
          go_region_held3 (fun w'=>w'.cell? ⟨wo.heap.size,1,none⟩=some (.int .u8 x.kd)∧w'.cell? ⟨wo.heap.size,3,none⟩=some (.int .i64 x.ofv))
            (first
              | exact ⟨c1,c3⟩
              | exact HSt.out _ _ _ (by assumption) rfl)
            (fail)
          rename_i hHl
          clear hHl HSt
          have HI2:=Lib.hid (HI1.out.put34 HD.out hlt ((x.kd:Int) == 1) (decide (0≤x.ofv))).draw
          have d2:(((W1.setCell ⟨PB,k * 7+3,none⟩ (.bool ((x.kd:Int) == 1))).setCell ⟨PB,k * 7+4,none⟩ (.bool (decide (0≤x.ofv)))).drew).cell? ⟨wo.heap.size,2,none⟩=some (.int .i64 x.rg):=((World.cell?_setCell_far _ _ _ _ hne).trans (World.cell?_setCell_far _ _ _ _ hne)).trans c2
          have d3:(((W1.setCell ⟨PB,k * 7+3,none⟩ (.bool ((x.kd:Int) == 1))).setCell ⟨PB,k * 7+4,none⟩ (.bool (decide (0≤x.ofv)))).drew).cell? ⟨wo.heap.size,3,none⟩=some (.int .i64 x.ofv):=((World.cell?_setCell_far _ _ _ _ hne).trans (World.cell?_setCell_far _ _ _ _ hne)).trans c3
          have hz2:wo.heap.size<(((W1.setCell ⟨PB,k * 7+3,none⟩ (.bool ((x.kd:Int) == 1))).setCell ⟨PB,k * 7+4,none⟩ (.bool (decide (0≤x.ofv)))).drew).heap.size:=by simpa using hz9
          generalize (((W1.setCell ⟨PB,k * 7+3,none⟩ (.bool ((x.kd:Int) == 1))).setCell ⟨PB,k * 7+4,none⟩ (.bool (decide (0≤x.ofv)))).drew)=W2 at *
          clear e1 e2 e3 e4 e5 p3 p4 pf c1 c2 c3
          have hq:=HI2.out.pl k hlt
          rw [setP_same] at hq
          have hkd:((x.kd:Int) == 1)=(x.kd == 1):=by rw [Bool.eq_iff_iff];simp only [beq_iff_eq];omega
          have p0:W2.cell? ⟨PB,k * 7,none⟩=some (.int .i64 (pl2 m k k).par):=hq.c0
          have p1:W2.cell? ⟨PB,k * 7+1,none⟩=some (.int .i64 (pl2 m k k).reg):=hq.c1
          have pf:=HI2.out.pf
          rw [pl2_at] at p0 p1
          have hb1o:b1<w.heap.size:=hq1
          have hb3o:b3<w.heap.size:=hq3
          have hPB0:w4.heap.size≤PB:=HD.out.lo.1
          have hneH:PB≠w.heap.size:=by omega
          have hneB:PB≠b1:=by omega
          rcases HV.out with ⟨hof,s,hs,hofe,_,hpl⟩ | ⟨hof,r,hrr,hrge,hpl⟩
          · have p4:W2.cell? ⟨PB,k * 7+4,none⟩=some (.bool true):=hq.c4.trans (by show some (Value.bool (decide (0≤x.ofv)))=_;rw [decide_eq_true hof])
            clear hq HV HF2
            have HF:=Lib.hid (HF1.out hof)
            rw [hofe] at d3 HF
            rw [hofe,hkd] at HI2
            clear HF1 hofe hof
            as_aux_lemma =>
              have hsI:(s:Int)<(m.vers.length:Int):=by omega
              have hs0:(0:Int)≤(s:Int):=by omega
              obtain ⟨_,_,_,_,g2,_⟩:=HG.out W2 HI2.out.bel s hs
              have x4:=HX4.out W2 HI2.out.bel
              generalize m.vers[s]=y at g2 hpl
              have hws:(Lit.int .i64 (s:Int)).wf=true:=WalkArith.wf_i64 ⟨by omega,by omega⟩
              go_upto_region 16 with fail
              have HSt:Hid (∀ (w':World) (a:Addr) (u:Value),w'.cell? ⟨wo.heap.size,3,none⟩=some (.int .i64 s)∧w'.cell? ⟨w.heap.size,4,none⟩=some (.slice (some ⟨b1,o1,none⟩) m.vers.length p.c4)∧w'.cell? ⟨b1,o1+s * 8+2,none⟩=some (.int .i64 y.rg)→a.block=PB→(w'.setCell a u).cell? ⟨wo.heap.size,3,none⟩=some (.int .i64 s)∧(w'.setCell a u).cell? ⟨w.heap.size,4,none⟩=some (.slice (some ⟨b1,o1,none⟩) m.vers.length p.c4)∧(w'.setCell a u).cell? ⟨b1,o1+s * 8+2,none⟩=some (.int .i64 y.rg)):=fun w' a u h ha =>
                ⟨(World.cell?_setCell_far _ _ _ _ (by rw [ha];exact hne)).trans h.1,(World.cell?_setCell_far _ _ _ _ (by rw [ha];exact hneH)).trans h.2.1,(World.cell?_setCell_far _ _ _ _ (by rw [ha];exact hneB)).trans h.2.2⟩
              go_region_held3 (fun w'=>w'.cell? ⟨wo.heap.size,3,none⟩=some (.int .i64 s)∧w'.cell? ⟨w.heap.size,4,none⟩=some (.slice (some ⟨b1,o1,none⟩) m.vers.length p.c4)∧w'.cell? ⟨b1,o1+s * 8+2,none⟩=some (.int .i64 y.rg))
                (first
                  | exact ⟨d3,x4,g2⟩
                  | exact HSt.out _ _ _ (by assumption) rfl)
                (fail)
              rename_i hHl
              clear hHl HSt
              have HI3:Hid (IxSt w4 m.vers.length m.regs.length N1 PB KB MO MP IB XB (pl2 m (k+1)) (F2 m k) V m.regs.length cp (((W2.setCell ⟨PB,k * 7,none⟩ (.int .i64 s)).setCell ⟨PB,k * 7+1,none⟩ (.int .i64 y.rg)).drew)):=by
                have:=(HI2.out.put01 HD.out hlt s y.rg).draw
                rw [setP_setP,setP_same,pl2_at] at this
                rw [← HPS.out,hpl]
                exact this
              have dX:(((W2.setCell ⟨PB,k * 7,none⟩ (.int .i64 s)).setCell ⟨PB,k * 7+1,none⟩ (.int .i64 y.rg)).drew).cell? ⟨wo.heap.size,3,none⟩=some (.int .i64 s):=((World.cell?_setCell_far _ _ _ _ hne).trans (World.cell?_setCell_far _ _ _ _ hne)).trans d3
              have hz3:wo.heap.size<(((W2.setCell ⟨PB,k * 7,none⟩ (.int .i64 s)).setCell ⟨PB,k * 7+1,none⟩ (.int .i64 y.rg)).drew).heap.size:=by simpa using hz2
              generalize (((W2.setCell ⟨PB,k * 7,none⟩ (.int .i64 s)).setCell ⟨PB,k * 7+1,none⟩ (.int .i64 y.rg)).drew)=W3 at *
              clear p0 p1 p4 pf d2 d3
              have e1:=HI3.out.x
              obtain ⟨e2,e3,e4,e5⟩:=HI3.out.idx
              have hlen:=F2_len m k (.pnt,s)
              have hzW3:=HI3.out.z
              have hIBz:IB<W3.heap.size:=by omega
              have hXBz:XB<W3.heap.size:=by omega
              clear x4 g2
              have HLook:Hid (∀ w',w'.heap[MP]? = W3.heap[MP]? → (Instr.lookup 111 (.map (some MP)) (.int .i64 s) false).run Tryz.prog w'=.ok (V (.pnt,s)) w'):=fun w' h=>MapAt.look (HI3.out.mp.keep h) hws
              have HS:Hid (∀ w',Below N1 W3 w'→w'.cell? ⟨wo.heap.size,3,none⟩=some (.int .i64 s)→w'.cell? ⟨XB,0,none⟩=some (.pointer (some ⟨IB,0,none⟩))∧w'.cell? ⟨IB,3,none⟩=some (.map (some MP))∧w'.cell? ⟨wo.heap.size,3,none⟩=some (.int .i64 s)∧(Instr.lookup 111 (.map (some MP)) (.int .i64 s) false).run Tryz.prog w'=.ok (V (.pnt,s)) w'):=fun w' h c =>
                ⟨(h.cell (p:=⟨XB,0,none⟩) hXB).trans e1,(h.cell (p:=⟨IB,3,none⟩) hIB).trans e5,c,HLook.out w' (h.block MP hMP)⟩
              have hne9:(V (.pnt,s)).ownBlock≠some wo.heap.size:=HN9.out (.pnt,s)
              have hown:=HI3.out.rw.own (.pnt,s)
              generalize hn:(F2 m k (.pnt,s)).length=nF at hown hlen
              have HPU:Hid (∀ (gg cap:Nat) w1,(W3.drew.alloc (.cells #[.int .i64 k] 3)).grownBy w1 (V (.pnt,s)).ownBlock→((V (.pnt,s)).ownBlock=some gg∨gg=W3.heap.size+1)→w1.ownsRow N1 3 1 (.slice (some ⟨gg,0,none⟩) (nF+1) cap) (nF+1) (nums (F2 m k (.pnt,s)) ++ [.int .i64 k]) →
                  ∃ w2,(Instr.mapUpdate 111 (.map (some MP)) (.int .i64 s) (.slice (some ⟨gg,0,none⟩) (nF+1) cap)).run Tryz.prog w1=.ok () w2 ∧
                    IxSt w4 m.vers.length m.regs.length N1 PB KB MO MP IB XB (pl2 m (k+1)) (F2 m (k+1)) (upd V (.pnt,s) (.slice (some ⟨gg,0,none⟩) (nF+1) cap)) m.regs.length (cp+1) w2):=by
                intro gg cap w1 h1 h2 h3
                rw [HF.out]
                subst hn
                exact push_pnt HI3.out HD.out hz5 (by omega) hws h1 h2 h3
              clear hn
              go_upto_region 17 with fail
              have HC10:Hid (∀ w1,(W3.drew.alloc (.cells #[.int .i64 k] 3)).grownBy w1 (V (.pnt,s)).ownBlock→Below N1 W3 w1∧w1.cell? ⟨wo.heap.size,3,none⟩=some (.int .i64 s)):=fun w1 hg =>
                ⟨HI3.out.app hg,(hg.cell_far ⟨wo.heap.size,3,none⟩ (by simp;omega) (fun e=>hne9 e.symm)).trans (((below_al1 W3.drew _).cell (p:=⟨wo.heap.size,3,none⟩) (by simpa using hz3)).trans dX)⟩
              have hB0:Below N1 W3 W3:=Below.refl _ _
              refine wp_region_any (by kernel_rfl) ?_
              change wpAny _ _ _ _ _ _ _ (World.drew _)
              refine wpAny_sink (n:=16) (o:=⟨none,.mapUpdate 111 (.tmp 112) (.tmp 114) (.tmp 124),0, "index.go:45", #[⟨3,.data⟩,⟨5,.data⟩,⟨15,.data⟩,⟨15,.chain⟩,⟨0,.phase⟩,⟨1,.phase⟩,⟨2,.phase⟩,⟨3,.phase⟩,⟨4,.phase⟩,⟨5,.phase⟩,⟨6,.phase⟩,⟨7,.phase⟩,⟨8,.phase⟩,⟨9,.phase⟩,⟨10,.phase⟩,⟨11,.phase⟩,⟨12,.phase⟩,⟨13,.phase⟩,⟨14,.phase⟩,⟨15,.phase⟩],none⟩) (ops':=#[⟨some 109,.load 45 (.tmp 7),45, "index.go:45", #[],none⟩,⟨some 110,.nilCheck (.tmp 109),0, "index.go:45", #[⟨0,.data⟩],none⟩,⟨some 111,.fieldAddr 113 (.tmp 110) 3,0, "index.go:45", #[⟨1,.data⟩],none⟩,⟨some 112,.load 111 (.tmp 111),111, "index.go:45", #[⟨2,.data⟩],none⟩,⟨some 113,.fieldAddr 35 (.tmp 11) 3,0, "index.go:45", #[],none⟩,⟨some 114,.load 3 (.tmp 113),3, "index.go:45", #[⟨4,.data⟩],none⟩,⟨some 115,.load 45 (.tmp 7),45, "index.go:45", #[],none⟩,⟨some 116,.nilCheck (.tmp 115),0, "index.go:45", #[⟨6,.data⟩],none⟩,⟨some 117,.fieldAddr 113 (.tmp 116) 3,0, "index.go:45", #[⟨7,.data⟩],none⟩,⟨some 118,.load 111 (.tmp 117),111, "index.go:45", #[⟨8,.data⟩],none⟩,⟨some 119,.fieldAddr 35 (.tmp 11) 3,0, "index.go:45", #[],none⟩,⟨some 120,.load 3 (.tmp 119),3, "index.go:45", #[⟨10,.data⟩],none⟩,⟨some 121,.lookup 111 (.tmp 118) (.tmp 120) false,31, "index.go:45", #[⟨9,.data⟩,⟨11,.data⟩],none⟩,⟨some 122,.move (.tmp 10),3, "index.go:45", #[],none⟩,⟨some 123,.buildSlice 31 1 #[(0,.tmp 122)],31, "index.go:45", #[⟨13,.data⟩],none⟩,⟨some 124,.call { callee:=.builtin .append,args:=#[.tmp 121,.tmp 123],argTypes:=#[31,31] },31, "index.go:45", #[⟨12,.data⟩,⟨14,.data⟩],none⟩]) (by decide) (by kernel_rfl) (by rfl) (by rfl) ?_
              refine wpAny_of_heldS (S:=(fun w'=>w'.cell? ⟨XB,0,none⟩=some (.pointer (some ⟨IB,0,none⟩))∧w'.cell? ⟨IB,3,none⟩=some (.map (some MP))∧w'.cell? ⟨wo.heap.size,3,none⟩=some (.int .i64 s)∧(Instr.lookup 111 (.map (some MP)) (.int .i64 s) false).run Tryz.prog w'=.ok (V (.pnt,s)) w')) ?_ (fun hHeld=>?_)
              · (try dsimp only) <;> (first | exact HS.out _ hB0 dX | exact HS.out _ hB0.drew dX | exact HS.out _ (hB0.drew.alloc hzW3 _) (((below_al1 W3.drew _).cell (p:=⟨wo.heap.size,3,none⟩) hz3).trans dX) | exact HS.out _ (HC10.out _ hgrow10).1 (HC10.out _ hgrow10).2)
              refine tk 0 rfl ?_
              try simp only [Act.put,lyA,lyZ,lyS]
              refine tk 1 rfl ?_
              try simp only [Act.put,lyA,lyZ,lyS]
              refine tk 2 rfl ?_
              try simp only [Act.put,lyA,lyZ,lyS]
              refine tk 3 rfl ?_
              try simp only [Act.put,lyA,lyZ,lyS]
              refine tk 4 rfl ?_
              try simp only [Act.put,lyA,lyZ,lyS]
              refine tk 5 rfl ?_
              try simp only [Act.put,lyA,lyZ,lyS]
              refine tk 6 rfl ?_
              try simp only [Act.put,lyA,lyZ,lyS]
              refine tk 7 rfl ?_
              try simp only [Act.put,lyA,lyZ,lyS]
              refine tk 8 rfl ?_
              try simp only [Act.put,lyA,lyZ,lyS]
              refine tk 9 rfl ?_
              try simp only [Act.put,lyA,lyZ,lyS]
              refine tk 10 rfl ?_
              try simp only [Act.put,lyA,lyZ,lyS]
              refine tk 11 rfl ?_
              try simp only [Act.put,lyA,lyZ,lyS]
              refine tk 13 rfl ?_
              try simp only [Act.put,lyA,lyZ,lyS]
              refine rdy [12,14] ?_
              refine rdC rfl (fun K hK=>?_) ?_
              (go_simp)
              refine hK.out _ _ ?_ (fun hH1=>?_)
              · (try dsimp only) <;> (first | exact HS.out _ hB0 dX | exact HS.out _ hB0.drew dX | exact HS.out _ (hB0.drew.alloc hzW3 _) (((below_al1 W3.drew _).cell (p:=⟨wo.heap.size,3,none⟩) hz3).trans dX) | exact HS.out _ (HC10.out _ hgrow10).1 (HC10.out _ hgrow10).2)
              clear hK K hHeld
              try simp only [Act.put,lyA,lyZ,lyS]
              refine rdy [14] ?_
              refine rdC rfl (fun K hK=>?_) ?_
              (go_simp)
              refine hK.out _ _ ?_ (fun hH2=>?_)
              · (try dsimp only) <;> (first | exact HS.out _ hB0 dX | exact HS.out _ hB0.drew dX | exact HS.out _ (hB0.drew.alloc hzW3 _) (((below_al1 W3.drew _).cell (p:=⟨wo.heap.size,3,none⟩) hz3).trans dX) | exact HS.out _ (HC10.out _ hgrow10).1 (HC10.out _ hgrow10).2)
              clear hK K hH1
              try simp only [Act.put,lyA,lyZ,lyS]
              refine rdy [15] ?_
              refine rdC rfl (fun K hK=>?_) ?_
              ((refine step_append_lies _ (by rfl) _ _ _ (by rfl) N1 3 iI _ 1 8 Tryz.underlying31 hiI zI0 zI1 zI2 rfl (by omega) _ nF (nums (F2 m k (.pnt,s))) (by rfl) ((hown.drew).alloc _) ⟨W3.heap.size,0,none⟩ 1 1 [.int .i64 k] (by rfl) (by rfl) (World.news_of_block (cs:=#[.int .i64 k]) (t:=3) (fr:=(0,0)) (alloc1_at W3.drew _)) (by simp [Value.oneCell']) (by omega) (by unfold maxLen;omega) (by omega) (by simp;omega) (W3.heap.size+1) (by simp) ?_;intro gg cap2 w10 hown10 hgrow10 hat10 hlt10;obtain ⟨w11,hrun11,hst11⟩:=HPU.out gg cap2 w10 hgrow10 hat10 hown10))
              refine hK.out _ _ ?_ (fun hH3=>?_)
              · (try dsimp only) <;> (first | exact HS.out _ hB0 dX | exact HS.out _ hB0.drew dX | exact HS.out _ (hB0.drew.alloc hzW3 _) (((below_al1 W3.drew _).cell (p:=⟨wo.heap.size,3,none⟩) hz3).trans dX) | exact HS.out _ (HC10.out _ hgrow10).1 (HC10.out _ hgrow10).2)
              clear hK K hH2
              try simp only [Act.put,lyA,lyZ,lyS]
              refine wpAnyH_done (by kernel_rfl) ?_ _
              rotate_left
              exact AllReadyH.nil
              exact AllReadyH.nil
              refine rdC rfl (fun K hK=>?_) ?_
              (go_simp)
              refine hK.out _ _ ?_ (fun hH4=>?_)
              · (try dsimp only) <;> (first | exact HS.out _ hB0 dX | exact HS.out _ hB0.drew dX | exact HS.out _ (hB0.drew.alloc hzW3 _) (((below_al1 W3.drew _).cell (p:=⟨wo.heap.size,3,none⟩) hz3).trans dX) | exact HS.out _ (HC10.out _ hgrow10).1 (HC10.out _ hgrow10).2)
              clear hK K hHeld
              try simp only [Act.put,lyA,lyZ,lyS]
              refine rdy [12] ?_
              refine rdC rfl (fun K hK=>?_) ?_
              (go_simp)
              refine hK.out _ _ ?_ (fun hH5=>?_)
              · (try dsimp only) <;> (first | exact HS.out _ hB0 dX | exact HS.out _ hB0.drew dX | exact HS.out _ (hB0.drew.alloc hzW3 _) (((below_al1 W3.drew _).cell (p:=⟨wo.heap.size,3,none⟩) hz3).trans dX) | exact HS.out _ (HC10.out _ hgrow10).1 (HC10.out _ hgrow10).2)
              clear hK K hH4
              try simp only [Act.put,lyA,lyZ,lyS]
              refine rdy [15] ?_
              refine rdC rfl (fun K hK=>?_) ?_
              ((refine step_append_lies _ (by rfl) _ _ _ (by rfl) N1 3 iI _ 1 8 Tryz.underlying31 hiI zI0 zI1 zI2 rfl (by omega) _ nF (nums (F2 m k (.pnt,s))) (by rfl) ((hown.drew).alloc _) ⟨W3.heap.size,0,none⟩ 1 1 [.int .i64 k] (by rfl) (by rfl) (World.news_of_block (cs:=#[.int .i64 k]) (t:=3) (fr:=(0,0)) (alloc1_at W3.drew _)) (by simp [Value.oneCell']) (by omega) (by unfold maxLen;omega) (by omega) (by simp;omega) (W3.heap.size+1) (by simp) ?_;intro gg cap2 w10 hown10 hgrow10 hat10 hlt10;obtain ⟨w11,hrun11,hst11⟩:=HPU.out gg cap2 w10 hgrow10 hat10 hown10))
              refine hK.out _ _ ?_ (fun hH6=>?_)
              · (try dsimp only) <;> (first | exact HS.out _ hB0 dX | exact HS.out _ hB0.drew dX | exact HS.out _ (hB0.drew.alloc hzW3 _) (((below_al1 W3.drew _).cell (p:=⟨wo.heap.size,3,none⟩) hz3).trans dX) | exact HS.out _ (HC10.out _ hgrow10).1 (HC10.out _ hgrow10).2)
              clear hK K hH5
              try simp only [Act.put,lyA,lyZ,lyS]
              refine wpAnyH_done (by kernel_rfl) ?_ _
              rotate_left
              exact AllReadyH.nil
              exact AllReadyH.nil
              exact AllReadyH.nil
              all_goals
                refine sinkQ_of fun K hK=>?_
                go_simp
                refine hK _ _ ?_
                go_wp2_with fail
                go_roundw
                case rel=>exact ⟨k+1,cp+1,_,by omega,by omega,by go_num,hst11⟩
                case measure=>simp [intOf] <;> omega
          · have p4:W2.cell? ⟨PB,k * 7+4,none⟩=some (.bool false):=hq.c4.trans (by show some (Value.bool (decide (0≤x.ofv)))=_;rw [decide_eq_false (by omega)])
            clear hq HV HF1
            have HF:=Lib.hid (HF2.out hof)
            rw [hrge] at d2 HF
            rw [hkd,decide_eq_false (show ¬ (0≤x.ofv) by omega)] at HI2
            clear HF2 hrge
            as_aux_lemma =>
              have hrI:(r:Int)<(m.regs.length:Int):=by omega
              have hr0:(0:Int)≤(r:Int):=by omega
              obtain ⟨_,g2⟩:=HR.out W2 HI2.out.bel r hrr
              have hneC:PB≠b3:=by omega
              have x3:=HX3.out W2 HI2.out.bel
              generalize m.regs[r]=y at g2 hpl
              go_upto_region 18 with fail
              have HSt:Hid (∀ (w':World) (a:Addr) (u:Value),w'.cell? ⟨wo.heap.size,2,none⟩=some (.int .i64 r)∧w'.cell? ⟨w.heap.size,3,none⟩=some (.slice (some ⟨b3,o3,none⟩) m.regs.length p.c3)∧w'.cell? ⟨b3,o3+r * 2+1,none⟩=some (.int .i64 y.own)→a.block=PB→(w'.setCell a u).cell? ⟨wo.heap.size,2,none⟩=some (.int .i64 r)∧(w'.setCell a u).cell? ⟨w.heap.size,3,none⟩=some (.slice (some ⟨b3,o3,none⟩) m.regs.length p.c3)∧(w'.setCell a u).cell? ⟨b3,o3+r * 2+1,none⟩=some (.int .i64 y.own)):=fun w' a u h ha =>
                ⟨(World.cell?_setCell_far _ _ _ _ (by rw [ha];exact hne)).trans h.1,(World.cell?_setCell_far _ _ _ _ (by rw [ha];exact hneH)).trans h.2.1,(World.cell?_setCell_far _ _ _ _ (by rw [ha];exact hneC)).trans h.2.2⟩
              go_region_held3 (fun w'=>w'.cell? ⟨wo.heap.size,2,none⟩=some (.int .i64 r)∧w'.cell? ⟨w.heap.size,3,none⟩=some (.slice (some ⟨b3,o3,none⟩) m.regs.length p.c3)∧w'.cell? ⟨b3,o3+r * 2+1,none⟩=some (.int .i64 y.own))
                (first
                  | exact ⟨d2,x3,g2⟩
                  | exact HSt.out _ _ _ (by assumption) rfl)
                (fail)
              rename_i hHl
              clear hHl HSt
              have HI3:Hid (IxSt w4 m.vers.length m.regs.length N1 PB KB MO MP IB XB (pl2 m (k+1)) (F2 m k) V m.regs.length cp (((W2.setCell ⟨PB,k * 7,none⟩ (.int .i64 y.own)).setCell ⟨PB,k * 7+1,none⟩ (.int .i64 r)).drew)):=by
                have:=(HI2.out.put01 HD.out hlt y.own r).draw
                rw [setP_setP,setP_same,pl2_at] at this
                rw [← HPS.out,hpl]
                exact this
              have dX:(((W2.setCell ⟨PB,k * 7,none⟩ (.int .i64 y.own)).setCell ⟨PB,k * 7+1,none⟩ (.int .i64 r)).drew).cell? ⟨wo.heap.size,2,none⟩=some (.int .i64 r):=((World.cell?_setCell_far _ _ _ _ hne).trans (World.cell?_setCell_far _ _ _ _ hne)).trans d2
              have hz3:wo.heap.size<(((W2.setCell ⟨PB,k * 7,none⟩ (.int .i64 y.own)).setCell ⟨PB,k * 7+1,none⟩ (.int .i64 r)).drew).heap.size:=by simpa using hz2
              generalize (((W2.setCell ⟨PB,k * 7,none⟩ (.int .i64 y.own)).setCell ⟨PB,k * 7+1,none⟩ (.int .i64 r)).drew)=W3 at *
              clear p0 p1 p4 pf d2 d3
              have e1:=HI3.out.x
              obtain ⟨e2,e3,e4,e5⟩:=HI3.out.idx
              have hlen:=F2_len m k (.kid,r)
              have hzW3:=HI3.out.z
              have hIBz:IB<W3.heap.size:=by omega
              have hXBz:XB<W3.heap.size:=by omega
              clear x3 g2
              have kc:=HI3.out.kd r hrr
              have HS:Hid (∀ w',Below N1 W3 w'→w'.cell? ⟨wo.heap.size,2,none⟩=some (.int .i64 r)→w'.cell? ⟨XB,0,none⟩=some (.pointer (some ⟨IB,0,none⟩))∧w'.cell? ⟨IB,1,none⟩=some (.slice (some ⟨KB,0,none⟩) m.regs.length m.regs.length)∧w'.cell? ⟨wo.heap.size,2,none⟩=some (.int .i64 r)∧w'.cell? ⟨KB,r,none⟩=some (V (.kid,r))):=fun w' h c =>
                ⟨(h.cell (p:=⟨XB,0,none⟩) hXB).trans e1,(h.cell (p:=⟨IB,1,none⟩) hIB).trans e3,c,(h.cell (p:=⟨KB,r,none⟩) hKB).trans kc⟩
              have hne9:(V (.kid,r)).ownBlock≠some wo.heap.size:=HN9.out (.kid,r)
              have hown:=HI3.out.rw.own (.kid,r)
              generalize hn:(F2 m k (.kid,r)).length=nF at hown hlen
              have HPU:Hid (∀ (gg cap:Nat) w1,(W3.drew.alloc (.cells #[.int .i64 k] 3)).grownBy w1 (V (.kid,r)).ownBlock→((V (.kid,r)).ownBlock=some gg∨gg=W3.heap.size+1)→w1.ownsRow N1 3 1 (.slice (some ⟨gg,0,none⟩) (nF+1) cap) (nF+1) (nums (F2 m k (.kid,r)) ++ [.int .i64 k]) →
                  IxSt w4 m.vers.length m.regs.length N1 PB KB MO MP IB XB (pl2 m (k+1)) (F2 m (k+1)) (upd V (.kid,r) (.slice (some ⟨gg,0,none⟩) (nF+1) cap)) m.regs.length cp (w1.setCell ⟨KB,r,none⟩ (.slice (some ⟨gg,0,none⟩) (nF+1) cap))∧w1.cell? ⟨KB,r,none⟩=some (V (.kid,r))∧w1.frozen? ⟨KB,r,none⟩=false):=by
                intro gg cap w1 h1 h2 h3
                rw [HF.out]
                subst hn
                have hb:=HI3.out.app h1
                exact ⟨push_kid HI3.out HD.out hz5 hrr h1 h2 h3,(hb.cell (p:=⟨KB,r,none⟩) hKB).trans kc,(World.frozen?_of_block (w:=W3) (hb.block KB hKB)).trans (HI3.out.kf r)⟩
              clear hn
              go_upto_region 19 with fail
              have HC10:Hid (∀ w1,(W3.drew.alloc (.cells #[.int .i64 k] 3)).grownBy w1 (V (.kid,r)).ownBlock→Below N1 W3 w1∧w1.cell? ⟨wo.heap.size,2,none⟩=some (.int .i64 r)):=fun w1 hg =>
                ⟨HI3.out.app hg,(hg.cell_far ⟨wo.heap.size,2,none⟩ (by simp;omega) (fun e=>hne9 e.symm)).trans (((below_al1 W3.drew _).cell (p:=⟨wo.heap.size,2,none⟩) (by simpa using hz3)).trans dX)⟩
              have hB0:Below N1 W3 W3:=Below.refl _ _
              refine wp_region_any (by kernel_rfl) ?_
              change wpAny _ _ _ _ _ _ _ (World.drew _)
              refine wpAny_sink (n:=18) (o:=⟨none,.store 31 (.tmp 157) (.tmp 156),0, "index.go:49", #[⟨17,.data⟩,⟨16,.data⟩,⟨16,.chain⟩,⟨0,.phase⟩,⟨1,.phase⟩,⟨2,.phase⟩,⟨3,.phase⟩,⟨4,.phase⟩,⟨5,.phase⟩,⟨6,.phase⟩,⟨7,.phase⟩,⟨8,.phase⟩,⟨9,.phase⟩,⟨10,.phase⟩,⟨11,.phase⟩,⟨12,.phase⟩,⟨13,.phase⟩,⟨14,.phase⟩,⟨15,.phase⟩,⟨16,.phase⟩],none⟩) (ops':=#[⟨some 140,.load 45 (.tmp 7),45, "index.go:49", #[],none⟩,⟨some 141,.nilCheck (.tmp 140),0, "index.go:49", #[⟨0,.data⟩],none⟩,⟨some 142,.fieldAddr 113 (.tmp 141) 1,0, "index.go:49", #[⟨1,.data⟩],none⟩,⟨some 143,.load 110 (.tmp 142),110, "index.go:49", #[⟨2,.data⟩],none⟩,⟨some 144,.fieldAddr 35 (.tmp 11) 2,0, "index.go:49", #[],none⟩,⟨some 145,.load 3 (.tmp 144),3, "index.go:49", #[⟨4,.data⟩],none⟩,⟨some 146,.load 45 (.tmp 7),45, "index.go:49", #[],none⟩,⟨some 147,.nilCheck (.tmp 146),0, "index.go:49", #[⟨6,.data⟩],none⟩,⟨some 148,.fieldAddr 113 (.tmp 147) 1,0, "index.go:49", #[⟨7,.data⟩],none⟩,⟨some 149,.load 110 (.tmp 148),110, "index.go:49", #[⟨8,.data⟩],none⟩,⟨some 150,.fieldAddr 35 (.tmp 11) 2,0, "index.go:49", #[],none⟩,⟨some 151,.load 3 (.tmp 150),3, "index.go:49", #[⟨10,.data⟩],none⟩,⟨some 152,.indexAddr 110 (.tmp 149) (.tmp 151),0, "index.go:49", #[⟨9,.data⟩,⟨11,.data⟩],none⟩,⟨some 153,.load 31 (.tmp 152),31, "index.go:49", #[⟨12,.data⟩],none⟩,⟨some 154,.move (.tmp 10),3, "index.go:49", #[],none⟩,⟨some 155,.buildSlice 31 1 #[(0,.tmp 154)],31, "index.go:49", #[⟨14,.data⟩],none⟩,⟨some 156,.call { callee:=.builtin .append,args:=#[.tmp 153,.tmp 155],argTypes:=#[31,31] },31, "index.go:49", #[⟨13,.data⟩,⟨15,.data⟩],none⟩,⟨some 157,.indexAddr 110 (.tmp 143) (.tmp 145),0, "index.go:49", #[⟨3,.data⟩,⟨5,.data⟩,⟨0,.phase⟩,⟨1,.phase⟩,⟨2,.phase⟩,⟨3,.phase⟩,⟨4,.phase⟩,⟨5,.phase⟩,⟨6,.phase⟩,⟨7,.phase⟩,⟨8,.phase⟩,⟨9,.phase⟩,⟨10,.phase⟩,⟨11,.phase⟩,⟨12,.phase⟩,⟨13,.phase⟩,⟨14,.phase⟩,⟨15,.phase⟩,⟨16,.phase⟩],none⟩]) (by decide) (by kernel_rfl) (by rfl) (by rfl) ?_
              refine wpAny_of_heldS (S:=(fun w'=>w'.cell? ⟨XB,0,none⟩=some (.pointer (some ⟨IB,0,none⟩))∧w'.cell? ⟨IB,1,none⟩=some (.slice (some ⟨KB,0,none⟩) m.regs.length m.regs.length)∧w'.cell? ⟨wo.heap.size,2,none⟩=some (.int .i64 r)∧w'.cell? ⟨KB,r,none⟩=some (V (.kid,r)))) ?_ (fun hHeld=>?_)
              · (try dsimp only) <;> (first | exact HS.out _ hB0 dX | exact HS.out _ hB0.drew dX | exact HS.out _ (hB0.drew.alloc hzW3 _) (((below_al1 W3.drew _).cell (p:=⟨wo.heap.size,2,none⟩) hz3).trans dX) | exact HS.out _ (HC10.out _ hgrow10).1 (HC10.out _ hgrow10).2)
              refine tk 0 rfl ?_
              try simp only [Act.put,lyA,lyZ,lyS]
              refine tk 1 rfl ?_
              try simp only [Act.put,lyA,lyZ,lyS]
              refine tk 2 rfl ?_
              try simp only [Act.put,lyA,lyZ,lyS]
              refine tk 3 rfl ?_
              try simp only [Act.put,lyA,lyZ,lyS]
              refine tk 4 rfl ?_
              try simp only [Act.put,lyA,lyZ,lyS]
              refine tk 5 rfl ?_
              try simp only [Act.put,lyA,lyZ,lyS]
              refine tk 6 rfl ?_
              try simp only [Act.put,lyA,lyZ,lyS]
              refine tk 7 rfl ?_
              try simp only [Act.put,lyA,lyZ,lyS]
              refine tk 8 rfl ?_
              try simp only [Act.put,lyA,lyZ,lyS]
              refine tk 9 rfl ?_
              try simp only [Act.put,lyA,lyZ,lyS]
              refine tk 10 rfl ?_
              try simp only [Act.put,lyA,lyZ,lyS]
              refine tk 11 rfl ?_
              try simp only [Act.put,lyA,lyZ,lyS]
              refine tk 12 rfl ?_
              try simp only [Act.put,lyA,lyZ,lyS]
              refine tk 13 rfl ?_
              try simp only [Act.put,lyA,lyZ,lyS]
              refine tk 14 rfl ?_
              try simp only [Act.put,lyA,lyZ,lyS]
              refine rdy [15] ?_
              refine rdC rfl (fun K hK=>?_) ?_
              (go_simp)
              refine hK.out _ _ ?_ (fun hH1=>?_)
              · (try dsimp only) <;> (first | exact HS.out _ hB0 dX | exact HS.out _ hB0.drew dX | exact HS.out _ (hB0.drew.alloc hzW3 _) (((below_al1 W3.drew _).cell (p:=⟨wo.heap.size,2,none⟩) hz3).trans dX) | exact HS.out _ (HC10.out _ hgrow10).1 (HC10.out _ hgrow10).2)
              clear hK K hHeld
              try simp only [Act.put,lyA,lyZ,lyS]
              refine rdy [16] ?_
              refine rdC rfl (fun K hK=>?_) ?_
              ((refine step_append_lies _ (by rfl) _ _ _ (by rfl) N1 3 iI _ 1 8 Tryz.underlying31 hiI zI0 zI1 zI2 rfl (by omega) _ nF (nums (F2 m k (.kid,r))) (by rfl) ((hown.drew).alloc _) ⟨W3.heap.size,0,none⟩ 1 1 [.int .i64 k] (by rfl) (by rfl) (World.news_of_block (cs:=#[.int .i64 k]) (t:=3) (fr:=(0,0)) (alloc1_at W3.drew _)) (by simp [Value.oneCell']) (by omega) (by unfold maxLen;omega) (by omega) (by simp;omega) (W3.heap.size+1) (by simp) ?_;intro gg cap2 w10 hown10 hgrow10 hat10 hlt10;obtain ⟨hst11,hkc10,hkf10⟩:=HPU.out gg cap2 w10 hgrow10 hat10 hown10))
              refine hK.out _ _ ?_ (fun hH2=>?_)
              · (try dsimp only) <;> (first | exact HS.out _ hB0 dX | exact HS.out _ hB0.drew dX | exact HS.out _ (hB0.drew.alloc hzW3 _) (((below_al1 W3.drew _).cell (p:=⟨wo.heap.size,2,none⟩) hz3).trans dX) | exact HS.out _ (HC10.out _ hgrow10).1 (HC10.out _ hgrow10).2)
              clear hK K hH1
              try simp only [Act.put,lyA,lyZ,lyS]
              refine tk 17 rfl ?_
              try simp only [Act.put,lyA,lyZ,lyS]
              refine wpAnyH_done (by kernel_rfl) ?_ _
              rotate_left
              exact AllReadyH.nil
              exact AllReadyH.nil
              all_goals
                refine sinkQ_of fun K hK=>?_
                go_simp
                refine hK _ _ ?_
                go_wp2_with fail
                go_roundw
                case rel=>exact ⟨k+1,cp,_,by omega,by omega,by go_num,hst11⟩
                case measure=>simp [intOf] <;> omega
      · have hke:k=m.vers.length:=by omega
        subst hke
        have hz:=HI.out.z
        have e1:=HI.out.x
        obtain ⟨e2,e3,e4,e5⟩:=HI.out.idx
        go_wp2_with fail
        have HI0:Hid (IxSt w4 m.vers.length m.regs.length N1 PB KB MO MP IB XB (pl3 m 0) (F2 m m.vers.length) V m.regs.length cp wo):=HI.out.pl_eq (fun i hi=>by simp [pl2,pl3,hi])
        clear HI hlt hk hz e1 e2 e3 e4 e5
        refine wp_loopd [13,164,165,166,167,168,169,170,171,172,173,174,175,176,177,178,179,180,181,182,183,184,185,186,187,188,189] 164 (fun ds i wr=>∃ k:Nat,k≤m.vers.length∧i=.int .i64 k∧Marked N1 ds wr∧IxSt w4 m.vers.length m.regs.length N1 PB KB MO MP IB XB (pl3 m k) (F2 m m.vers.length) V m.regs.length cp wr) (fun i=>m.vers.length - (intOf i).toNat) ?h0 ?round
        case h0 =>
         simp only [LoopD,Fr,List.set_cons_zero,List.set_cons_succ,List.getD_cons_succ,List.getD_cons_zero]
         refine ⟨[],?_⟩
         repeat apply Exists.intro
         refine ⟨?_,rfl⟩
         exact ⟨0,by omega,rfl,Marked.nil _ _,HI0.out⟩
        case round =>
         simp only [LoopD,Fr,List.set_cons_zero,List.set_cons_succ,List.getD_cons_succ,List.getD_cons_zero]
         intro _ wr hinv
         obtain ⟨ds,u13,u164,u165,u166,u167,u168,u169,u170,u171,u172,u173,u174,u175,u176,u177,u178,u179,u180,u181,u182,u183,u184,u185,u186,u187,u188,u189,hrel,ha⟩:=hinv
         subst ha
         try dsimp only
         clear HI0 wo
         obtain ⟨wo,rfl⟩:∃ wo:World,wo=wr:=⟨_,rfl⟩
         obtain ⟨k,hk,rfl,hM,hst⟩:=hrel
         have HI:=Lib.hid hst
         have HM:=Lib.hid hM
         clear hst hM
         by_cases hlt:k<m.vers.length
         · as_aux_lemma =>
             have hltI:(k:Int)<(m.vers.length:Int):=by omega
             have hi0:(0:Int)≤(k:Int):=by omega
             have hzwo:=HI.out.z
             go_upto_region 24 with fail
             have HG1:Hid (Below wo.heap.size wo (wo.alloc (.cells #[.int .i64 k] 3))):=below_al1 wo _
             have c9:(wo.alloc (.cells #[.int .i64 k] 3)).cell? ⟨wo.heap.size,0,none⟩=some (.int .i64 k):=by simp
             have hz9:wo.heap.size+1=(wo.alloc (.cells #[.int .i64 k] 3)).heap.size:=by simp
             generalize wo.alloc (.cells #[.int .i64 k] 3)=W1 at *
             have HI1:=Lib.hid (HI.out.grown HD.out HG1.out)
             have e1:=HI1.out.x
             have e2:=HI1.out.idx.1
             have q0:=(HI1.out.pl k hlt).c0
             have hpar:(pl3 m k k).par=arM m k:=by rw [pl3_par];unfold plM;rw [List.getElem?_eq_getElem hlt]
             rw [hpar] at q0
             clear hpar
             have hzW1:=HI1.out.z
             have HS:Hid (∀ w',Below W1.heap.size W1 w'→w'.cell? ⟨XB,0,none⟩=some (.pointer (some ⟨IB,0,none⟩))∧w'.cell? ⟨IB,0,none⟩=some (.slice (some ⟨PB,0,none⟩) m.vers.length m.vers.length)∧w'.cell? ⟨wo.heap.size,0,none⟩=some (.int .i64 k)∧w'.cell? ⟨PB,k * 7,none⟩=some (.int .i64 (arM m k))):=fun w' h =>
               ⟨(h.cell (p:=⟨XB,0,none⟩) (by simp only;omega)).trans e1,(h.cell (p:=⟨IB,0,none⟩) (by simp only;omega)).trans e2,(h.cell (p:=⟨wo.heap.size,0,none⟩) (by simp only;omega)).trans c9,(h.cell (p:=⟨PB,k * 7,none⟩) (by simp only;omega)).trans q0⟩
             have hB0:Below W1.heap.size W1 W1:=Below.refl _ _
             have HUp:Hid (∀ w',Below W1.heap.size W1 w'→Below W1.heap.size W1 ((w'.alloc (.cells #[.pointer (some ⟨IB,0,none⟩)] 45)).alloc (.cells #[.int .i64 (arM m k)] 3))):=fun w' h=>(h.alloc h.size _).alloc (by have:=h.size;simp;omega) _
             go_region_held3 (fun w'=>w'.cell? ⟨XB,0,none⟩=some (.pointer (some ⟨IB,0,none⟩))∧w'.cell? ⟨IB,0,none⟩=some (.slice (some ⟨PB,0,none⟩) m.vers.length m.vers.length)∧w'.cell? ⟨wo.heap.size,0,none⟩=some (.int .i64 k)∧w'.cell? ⟨PB,k * 7,none⟩=some (.int .i64 (arM m k)))
               (first
                 | exact HS.out _ hB0
                 | exact HS.out _ hB0.drew
                 | exact HS.out _ (HUp.out _ hB0)
                 | exact HS.out _ (HUp.out _ hB0.drew))
               (first
                 | ((with_reducible refine (up_any (some ⟨IB,0,none⟩) (arM m k) _).mono ?_);rintro e w' ⟨rfl,rfl⟩))
             rename_i hHl
             clear hHl HS HUp
             go_wp2_with fail
             have HB2:Hid (Below W1.heap.size W1 (((W1.alloc (.cells #[.pointer (some ⟨IB,0,none⟩)] 45)).alloc (.cells #[.int .i64 (arM m k)] 3)).drew)):=((hB0.alloc hB0.size _).alloc (by simp) _).drew
             have hx2:((((W1.alloc (.cells #[.pointer (some ⟨IB,0,none⟩)] 45)).alloc (.cells #[.int .i64 (arM m k)] 3)).drew)).cell? ⟨W1.heap.size,0,none⟩=some (.pointer (some ⟨IB,0,none⟩)):=by simp
             have hv2:((((W1.alloc (.cells #[.pointer (some ⟨IB,0,none⟩)] 45)).alloc (.cells #[.int .i64 (arM m k)] 3)).drew)).cell? ⟨W1.heap.size+1,0,none⟩=some (.int .i64 (arM m k)):=(two_allocs W1 _ _ _).1
             have hf2:((((W1.alloc (.cells #[.pointer (some ⟨IB,0,none⟩)] 45)).alloc (.cells #[.int .i64 (arM m k)] 3)).drew)).frozen? ⟨W1.heap.size+1,0,none⟩=false:=(two_allocs W1 _ _ _).2
             have hs2:((((W1.alloc (.cells #[.pointer (some ⟨IB,0,none⟩)] 45)).alloc (.cells #[.int .i64 (arM m k)] 3)).drew)).heap.size=W1.heap.size+2:=by simp
             generalize (((W1.alloc (.cells #[.pointer (some ⟨IB,0,none⟩)] 45)).alloc (.cells #[.int .i64 (arM m k)] 3)).drew)=W2 at *
             have hd0:W2.cell? ⟨PB,k * 7+2,none⟩=some (.int .i64 ((0:Nat):Int)):=(HB2.out.cell (p:=⟨PB,k * 7+2,none⟩) (by simp only;omega)).trans (((HI1.out.pl k hlt).c2).trans (by rw [pl3_dep];rfl))
             have hdeep:=deep_right h0 hlt
             have hend:=(up_steps h0 hlt).1
             refine wp_range_skip (gf:=170) (lb:=#[.pointer (some ⟨W1.heap.size+1,0,none⟩),.pointer (some ⟨W1.heap.size,0,none⟩)]) rfl (fun _ _=>?eg) (UpAt (fun j=>upN m j (arM m k)) (deM m k) (W1.heap.size+1) W1.heap.size IB PB 0 m.vers.length m.vers.length) (fun j=>upN m j (arM m k)) (deM m k) (W1.heap.size+1) (by omega) ?hit (fun j W=>DepI W2 PB (k * 7+2) (W1.heap.size+1) (j:Nat) W) (fun _=>False)
               (fun j W h=>HI1.out.upAt h0 HD.out HB2.out (by omega) (by omega) (by omega) (Nat.le_refl _) hlt hx2 hf2 h) (fun j W W' h t=>h.turn (by omega) (by omega) (by omega) t) (fun _ _ h _=>h) (DepI.start hd0) hv2 ?hbody ?hdone (fun _ _ _ h _=>h.elim)
             case eg=>first | rfl | simp [go_sem]
             case hit=>exact fun l J Jx W hU hset hdrew hY hj hv=>up1_in (fun j=>upN m j (arM m k)) (deM m k) (W1.heap.size+1) W1.heap.size IB PB 0 m.vers.length m.vers.length hend l J Jx W hU hset hdrew hY hj hv
             case hbody =>
              intro l j W hj hd hv
              try dsimp only at hj hd hv
              simp only [List.setIfInBounds_toArray,List.set_cons_succ,List.set_cons_zero]
              have hs:=HI1.out.dep HD.out HB2.out (by omega) hlt hd
              have e1:=hs.x
              have e2:=hs.idx.1
              have pf:=hs.pf
              have pk:=hd.pk
              have c9:W.cell? ⟨wo.heap.size,0,none⟩=some (.int .i64 k):=(World.cell?_of_block (w:=W2) (hd.blk wo.heap.size (by omega) (by omega) (by omega))).trans ((HB2.out.cell (p:=⟨wo.heap.size,0,none⟩) (by simp only;omega)).trans c9)
              have HD1:=Lib.hid hd
              have HS1:=Lib.hid hs
              have hwr:IntKind.i64.wrap ((j:Int)+1)=(j:Int)+1:=IntWalk.i64_in _ (by omega)
              clear hs hd
              refine wpIn_block ?_
              gi_region
              all_goals exact ⟨KeepsB.set pk,(World.cell?_setCell_far _ _ _ _ (by simp only;omega)).trans hv,(HD1.out.store (by omega)).drew⟩
             case hdone =>
              intro D W hDl hd hK
              try dsimp only at hDl hd
              have hs:=HI1.out.dep HD.out HB2.out (by omega) hlt hd
              rw [show ((deM m k:Nat):Int)=deM m k from rfl,pl3_step] at hs
              have HS1:=Lib.hid hs
              have HM1:Hid (Marked N1 (D :: ds) W):=HM.out.cons hK (by omega) (by omega) fun D' hD'=>by
                have hl:=(Array.getElem?_eq_some_iff.1 (HM.out.at_ D' hD')).1
                have hlo:=HM.out.lo D' hD'
                exact (hd.blk D' (by omega) (by omega) (by omega)).trans ((HB2.out.block D' (by omega)).trans (HG1.out.block D' hl))
              clear hs hd hK
              go_wp2_with fail
              refine ⟨⟨D :: ds,_,_,_,_,_,_,_,_,_,_,_,_,_,_,_,_,_,_,_,_,_,_,_,_,_,_,_,?rel,rfl⟩,?measure⟩
              case rel=>exact ⟨k+1,by omega,by go_num,HM1.out,HS1.out⟩
              case measure=>simp [intOf] <;> omega
         · have hke:k=m.vers.length:=by omega
           subst hke
           have hz:=HI.out.z
           obtain ⟨x0,x1,x2,x3,x4,x5,_⟩:=HBoxM.out wo HI.out.bel
           go_wp2_with fail
           have HI0:Hid (IxSt w4 m.vers.length m.regs.length N1 PB KB MO MP IB XB (plF m) (F4 m 0) V m.regs.length cp wo):=by
             rw [F4_zero];exact HI.out.pl_eq (fun i hi=>by simp [pl3,hi])
           have HM0:=Lib.hid HM.out
           clear HI hlt hk hz HM
           go_loopw [193] (fun i wr=>∃ (k:Nat) (V:RI→Value),k≤m.trns.length∧i=.int .i64 k∧Marked N1 ds wr∧IxSt w4 m.vers.length m.regs.length N1 PB KB MO MP IB XB (plF m) (F4 m k) V m.regs.length cp wr) (fun i _=>m.trns.length - (intOf i).toNat)
           case atStart=>exact ⟨0,V,by omega,rfl,HM0.out,HI0.out⟩
           case round =>
            clear x0 x1 x2 x3 x4 x5 HI0 HM0
            obtain ⟨wo,rfl⟩:∃ wo:World,wo=wr:=⟨_,rfl⟩
            obtain ⟨k,V4,hk,rfl,hM,hst⟩:=hrel
            have HI:=Lib.hid hst
            have HM:=Lib.hid hM
            clear hst hM
            by_cases hlt:k<m.trns.length
            · as_aux_lemma =>
                have hltI:(k:Int)<(m.trns.length:Int):=by omega
                have hi0:(0:Int)≤(k:Int):=by omega
                obtain ⟨⟨s,hs,hse⟩,t,htl,hte⟩:=trn_right h0 hlt
                obtain ⟨b1,o1,ha1,hb1,hc1⟩:=(HMod.out wo (HBel.out wo HI.out.bel)).trns.get hlt
                have HF:=Lib.hid (F4_step m hlt)
                obtain ⟨x,hx⟩:∃ x,x=m.trns[k]:=⟨_,rfl⟩
                rw [← hx] at hc1 HF hse hte
                clear hx
                obtain ⟨dv,hdv,r0,r1,r2,r3,r4,r5,r6,r7⟩:=hc1
                rw [hse] at r1 HF
                rw [hte] at r2 HF
                clear hse hte
                obtain ⟨x0,x1,x2,x3,x4,x5,_⟩:=HBoxM.out wo HI.out.bel
                rw [ha1] at x5
                rw [ha1]
                obtain ⟨da,dc,rfl⟩:=hdv.len
                clear ha1 hdv
                have hzwo:=HI.out.z
                go_upto_region 30 with fail
                have HG1:Hid (Below wo.heap.size wo (wo.alloc (.cells #[.string x.nm,.int .i64 s,.int .i64 t,.slice da x.tr.length dc,.int .i64 x.af,.string x.gd,.string x.ef,.int .u8 x.kd] 97))):=below_al1 wo _
                have c1:(wo.alloc (.cells #[.string x.nm,.int .i64 s,.int .i64 t,.slice da x.tr.length dc,.int .i64 x.af,.string x.gd,.string x.ef,.int .u8 x.kd] 97)).cell? ⟨wo.heap.size,1,none⟩=some (.int .i64 s):=by simp
                have c2:(wo.alloc (.cells #[.string x.nm,.int .i64 s,.int .i64 t,.slice da x.tr.length dc,.int .i64 x.af,.string x.gd,.string x.ef,.int .u8 x.kd] 97)).cell? ⟨wo.heap.size,2,none⟩=some (.int .i64 t):=by simp
                have hz9:wo.heap.size+1=(wo.alloc (.cells #[.string x.nm,.int .i64 s,.int .i64 t,.slice da x.tr.length dc,.int .i64 x.af,.string x.gd,.string x.ef,.int .u8 x.kd] 97)).heap.size:=by simp
                generalize wo.alloc (.cells #[.string x.nm,.int .i64 s,.int .i64 t,.slice da x.tr.length dc,.int .i64 x.af,.string x.gd,.string x.ef,.int .u8 x.kd] 97)=W1 at *
                have HI1:=Lib.hid (HI.out.grown HD.out HG1.out)
                have HM1:Hid (Marked N1 ds W1):=HM.out.keep fun D' hD'=>HG1.out.block D' (Array.getElem?_eq_some_iff.1 (HM.out.at_ D' hD')).1
                clear x0 x1 x2 x3 x4 x5 r0 r1 r2 r3 r4 r5 r6 r7
                have e1:=HI1.out.x
                have e2:=HI1.out.idx.1
                have hsI:(s:Int)<(m.vers.length:Int):=by omega
                have hs0:(0:Int)≤(s:Int):=by omega
                have htI:(t:Int)<(m.vers.length:Int):=by omega
                have ht0:(0:Int)≤(t:Int):=by omega
                go_quiet (fail)
                have HB2:Hid (Below W1.heap.size W1 (W1.drewN nq)):=below_drewN (Below.refl _ _) nq
                generalize W1.drewN nq=W2 at *
                have HI2:=Lib.hid (HI1.out.grown HD.out HB2.out)
                have HM2:Hid (Marked N1 ds W2):=HM1.out.keep fun D' hD'=>HB2.out.block D' (Array.getElem?_eq_some_iff.1 (HM1.out.at_ D' hD')).1
                clear e1 e2 c1 c2
                have hzW2:=HI2.out.z
                have qA:=(HI2.out.pl s hs).c5
                have qB:=(HI2.out.pl t htl).c6
                have hownA:=HI2.out.rw.own (.out,s)
                have hownB:=HI2.out.rw.own (.into,t)
                have hlA:=F4_len m k (.out,s)
                have hlB:=F4_len m k (.into,t)
                have HNA:Hid ((F4 m k (.out,s)).length=(F4 m k (.out,s)).length):=rfl
                have HNB:Hid ((F4 m k (.into,t)).length=(F4 m k (.into,t)).length):=rfl
                obtain ⟨nA,hnA⟩:∃ nA,(F4 m k (.out,s)).length=nA:=⟨_,rfl⟩
                obtain ⟨nB,hnB⟩:∃ nB,(F4 m k (.into,t)).length=nB:=⟨_,rfl⟩
                rw [hnA] at hownA hlA
                rw [hnB] at hownB hlB
                have HW1:Hid (Below W2.heap.size W2 (W2.drew.alloc (.cells #[.int .i64 k] 3))):=(Below.refl _ W2).drew.alloc (Nat.le_refl _) _
                have HW2:Hid (Below W2.heap.size W2 ((W2.drew.alloc (.cells #[.int .i64 k] 3)).alloc (.cells #[.int .i64 k] 3))):=((Below.refl _ W2).drew.alloc (Nat.le_refl _) _).alloc (by simp) _
                have HOA1:=Lib.hid ((hownA.drew).alloc (.cells #[.int .i64 k] 3))
                have HOA2:=Lib.hid (((hownA.drew).alloc (.cells #[.int .i64 k] 3)).alloc (.cells #[.int .i64 k] 3))
                have HK1:Hid ((W2.drew.alloc (.cells #[.int .i64 k] 3)).heap[W2.heap.size]? = some (.cells #[.int .i64 k] 3)):=alloc1_at W2.drew _
                have HK2:Hid (((W2.drew.alloc (.cells #[.int .i64 k] 3)).alloc (.cells #[.int .i64 k] 3)).heap[W2.heap.size]? = some (.cells #[.int .i64 k] 3)):=(Below.heap_alloc _ _ _ (by simp)).trans (alloc1_at W2.drew _)
                have HK3:=Lib.hid (show ((W2.drew.alloc (.cells #[.int .i64 k] 3)).alloc (.cells #[.int .i64 k] 3)).heap[W2.heap.size+1]? = some (.cells #[.int .i64 k] 3) by have:=alloc1_at (W2.drew.alloc (.cells #[.int .i64 k] 3)) (.cells #[.int .i64 k] 3);simpa using this)
                have HA:Hid (∀ wA,Below W2.heap.size W2 wA→∀ gA cA w10,wA.grownBy w10 (V4 (.out,s)).ownBlock→((V4 (.out,s)).ownBlock=some gA∨gA=wA.heap.size)→w10.ownsRow N1 3 1 (.slice (some ⟨gA,0,none⟩) (nA+1) cA) (nA+1) (nums (F4 m k (.out,s)) ++ [.int .i64 k]) →
                    Below N1 W2 w10∧w10.ownsRow N1 3 1 (V4 (.into,t)) nB (nums (F4 m k (.into,t)))∧(∀ b,W2.heap.size≤b→b<wA.heap.size→w10.heap[b]? = wA.heap[b]?)∧wA.heap.size≤w10.heap.size):=by
                  intro wA hW gA cA w10 hg hat ho
                  have hr:=(HI2.out.grown HD.out hW).rw
                  refine ⟨(hW.mono hzW2).grown hg (by have:=hW.size;omega) fun q hq=>(hr.lt hq).1,?_,fun b hb1 hb2=>hg.block b hb2 fun e=>?_,hg.size⟩
                  · have:=(hr.push1 hnA rfl hg hat ho).own (.into,t)
                    rw [upd_ne (by simp),upd_ne (by simp),hnB] at this
                    exact this
                  · have:=(HI2.out.rw.lt e.symm).2;omega
                have HFin:Hid (∀ wA,Below W2.heap.size W2 wA→∀ gA cA w10,wA.grownBy w10 (V4 (.out,s)).ownBlock→((V4 (.out,s)).ownBlock=some gA∨gA=wA.heap.size)→w10.ownsRow N1 3 1 (.slice (some ⟨gA,0,none⟩) (nA+1) cA) (nA+1) (nums (F4 m k (.out,s)) ++ [.int .i64 k]) →
                    ∀ w11,Below w10.heap.size w10 w11→∀ gB cB w15,w11.grownBy w15 (V4 (.into,t)).ownBlock→((V4 (.into,t)).ownBlock=some gB∨gB=w11.heap.size)→w15.ownsRow N1 3 1 (.slice (some ⟨gB,0,none⟩) (nB+1) cB) (nB+1) (nums (F4 m k (.into,t)) ++ [.int .i64 k]) →
                    IxSt w4 m.vers.length m.regs.length N1 PB KB MO MP IB XB (plF m) (F4 m (k+1)) (upd (upd V4 (.out,s) (.slice (some ⟨gA,0,none⟩) (nA+1) cA)) (.into,t) (.slice (some ⟨gB,0,none⟩) (nB+1) cB)) m.regs.length cp ((w15.setCell ⟨PB,s * 7+5,none⟩ (.slice (some ⟨gA,0,none⟩) (nA+1) cA)).setCell ⟨PB,t * 7+6,none⟩ (.slice (some ⟨gB,0,none⟩) (nB+1) cB)) ∧
                      Marked N1 ds ((w15.setCell ⟨PB,s * 7+5,none⟩ (.slice (some ⟨gA,0,none⟩) (nA+1) cA)).setCell ⟨PB,t * 7+6,none⟩ (.slice (some ⟨gB,0,none⟩) (nB+1) cB)) ∧
                      Below N1 W2 w15∧w15.cell? ⟨PB,s * 7+5,none⟩=some (V4 (.out,s))∧w15.cell? ⟨PB,t * 7+6,none⟩=some (V4 (.into,t))∧w15.frozen? ⟨PB,s * 7+5,none⟩=false∧w15.frozen? ⟨PB,t * 7+6,none⟩=false):=by
                  intro wA hW gA cA w10 hg hat ho w11 hb gB cB w15 hg2 hat2 ho2
                  have hs0:=HI2.out.grown HD.out hW
                  have hM0:Marked N1 ds wA:=HM2.out.keep fun D' hD'=>hW.block D' (Array.getElem?_eq_some_iff.1 (HM2.out.at_ D' hD')).1
                  obtain ⟨h1,h2⟩:=hs0.pushes HD.out hz5 hM0 hnA hnB hg hat ho hb hg2 hat2 ho2
                  have hB10:Below N1 W2 w10:=(hW.mono hzW2).grown hg (by have:=hW.size;omega) fun q hq=>(HI2.out.rw.lt hq).1
                  have hB11:Below N1 W2 w11:=hB10.trans (hb.mono (by have:=hB10.size;omega))
                  have hB15:Below N1 W2 w15:=hB11.grown hg2 (by have:=hB11.size;omega) fun q hq=>(HI2.out.rw.lt hq).1
                  rw [HF.out]
                  exact ⟨h1,h2,hB15,(hB15.cell (p:=⟨PB,s * 7+5,none⟩) hPB).trans qA,(hB15.cell (p:=⟨PB,t * 7+6,none⟩) hPB).trans qB,(hB15.frozen (p:=⟨PB,s * 7+5,none⟩) hPB).trans (HI2.out.pf _),(hB15.frozen (p:=⟨PB,t * 7+6,none⟩) hPB).trans (HI2.out.pf _)⟩
                have HS:Hid (∀ w',Below N1 W2 w'→w'.cell? ⟨PB,s * 7+5,none⟩=some (V4 (.out,s))∧w'.cell? ⟨PB,t * 7+6,none⟩=some (V4 (.into,t))):=fun w' h=>⟨(h.cell (p:=⟨PB,s * 7+5,none⟩) hPB).trans qA,(h.cell (p:=⟨PB,t * 7+6,none⟩) hPB).trans qB⟩
                have hB0:Below N1 W2 W2:=Below.refl _ _
                have hoff:¬ (s * 7+5=t * 7+6):=by omega
                have hoff2:¬ (t * 7+6=s * 7+5):=by omega
                clear HNA HNB hnA hnB hownA hownB
                go_upto_region 31 with fail
                refine wp_region_any (by kernel_rfl) ?_
                change wpAny _ _ _ _ _ _ _ (World.drew _)
                refine wpAny_take (i:=1) (oi:=⟨some 213,.move (.tmp 17),198, "index.go:58", #[{ on:=18,ground:=.gcOnly Go.Departure.lateStores }],none⟩) (v:=?_) rfl (by kernel_rfl) (by kernel_rfl) (by kernel_rfl) (fun _ _ _ h=>h) (Or.inl ⟨by rfl,?_⟩) ?_
                rotate_left;(intro w;go_simp <;> with_reducible rfl);try simp only [Act.put,lyA,lyZ,lyS]
                refine wpAny_sink (n:=21) (o:=⟨none,.store 31 (.tmp 231) (.tmp 227),0, "index.go:58", #[⟨20,.data⟩,⟨15,.data⟩,⟨18,.chain⟩,⟨0,.phase⟩,⟨1,.phase⟩,⟨2,.phase⟩,⟨3,.phase⟩,⟨4,.phase⟩,⟨5,.phase⟩,⟨6,.phase⟩,⟨7,.phase⟩,⟨8,.phase⟩,⟨9,.phase⟩,⟨10,.phase⟩,⟨11,.phase⟩,⟨12,.phase⟩,⟨13,.phase⟩,⟨14,.phase⟩,⟨15,.phase⟩,⟨16,.phase⟩,⟨17,.phase⟩,⟨18,.phase⟩],none⟩) (ops':=_) (by decide) (by kernel_rfl) (by rfl) (by rfl) ?_
                refine wpAny_sink (n:=20) (o:=⟨some 231,.fieldAddr 108 (.tmp 230) 6,0, "index.go:58", #[⟨19,.data⟩,⟨0,.phase⟩,⟨1,.phase⟩,⟨2,.phase⟩,⟨3,.phase⟩,⟨4,.phase⟩,⟨5,.phase⟩,⟨6,.phase⟩,⟨7,.phase⟩,⟨8,.phase⟩,⟨9,.phase⟩,⟨10,.phase⟩,⟨11,.phase⟩,⟨12,.phase⟩,⟨13,.phase⟩,⟨14,.phase⟩,⟨15,.phase⟩,⟨16,.phase⟩,⟨17,.phase⟩,⟨18,.phase⟩],none⟩) (ops':=_) (by decide) (by kernel_rfl) (by rfl) (by rfl) ?_
                refine wpAny_sink (n:=19) (o:=⟨some 230,.nilCheck (.tmp 213),0, "index.go:58", #[⟨1,.data⟩,⟨0,.phase⟩,⟨1,.phase⟩,⟨2,.phase⟩,⟨3,.phase⟩,⟨4,.phase⟩,⟨5,.phase⟩,⟨6,.phase⟩,⟨7,.phase⟩,⟨8,.phase⟩,⟨9,.phase⟩,⟨10,.phase⟩,⟨11,.phase⟩,⟨12,.phase⟩,⟨13,.phase⟩,⟨14,.phase⟩,⟨15,.phase⟩,⟨16,.phase⟩,⟨17,.phase⟩,⟨18,.phase⟩],none⟩) (ops':=_) (by decide) (by kernel_rfl) (by rfl) (by rfl) ?_
                refine wpAny_sink (n:=18) (o:=⟨none,.store 31 (.tmp 229) (.tmp 220),0, "index.go:58", #[⟨17,.data⟩,⟨8,.data⟩,⟨15,.chain⟩,⟨0,.phase⟩,{ on:=1,ground:=.textOnly Go.Departure.lateStores },⟨2,.phase⟩,⟨3,.phase⟩,⟨4,.phase⟩,⟨5,.phase⟩,⟨6,.phase⟩,⟨7,.phase⟩,⟨8,.phase⟩,{ on:=9,ground:=.textOnly Go.Departure.lateStores },{ on:=10,ground:=.textOnly Go.Departure.lateStoresUnsure },{ on:=11,ground:=.textOnly Go.Departure.lateStoresUnsure },⟨12,.phase⟩,{ on:=13,ground:=.textOnly Go.Departure.lateStores },{ on:=14,ground:=.textOnly Go.Departure.lateStoresUnsure },⟨15,.phase⟩],none⟩) (ops':=#[⟨some 212,.move (.tmp 16),198, "index.go:58", #[],none⟩,⟨some 213,.move (.tmp 17),198, "index.go:58", #[{ on:=18,ground:=.gcOnly Go.Departure.lateStores }],none⟩,⟨some 214,.move (.tmp 16),198, "index.go:58", #[],none⟩,⟨some 215,.nilCheck (.tmp 214),0, "index.go:58", #[⟨2,.data⟩],none⟩,⟨some 216,.fieldAddr 108 (.tmp 215) 5,0, "index.go:58", #[⟨3,.data⟩],none⟩,⟨some 217,.load 31 (.tmp 216),31, "index.go:58", #[⟨4,.data⟩],none⟩,⟨some 218,.move (.tmp 14),3, "index.go:58", #[],none⟩,⟨some 219,.buildSlice 31 1 #[(0,.tmp 218)],31, "index.go:58", #[⟨6,.data⟩],none⟩,⟨some 220,.call { callee:=.builtin .append,args:=#[.tmp 217,.tmp 219],argTypes:=#[31,31] },31, "index.go:58", #[⟨5,.data⟩,⟨7,.data⟩],none⟩,⟨some 221,.move (.tmp 17),198, "index.go:58", #[],none⟩,⟨some 222,.nilCheck (.tmp 221),0, "index.go:58", #[⟨9,.data⟩],none⟩,⟨some 223,.fieldAddr 108 (.tmp 222) 6,0, "index.go:58", #[⟨10,.data⟩],none⟩,⟨some 224,.load 31 (.tmp 223),31, "index.go:58", #[⟨11,.data⟩],none⟩,⟨some 225,.move (.tmp 14),3, "index.go:58", #[],none⟩,⟨some 226,.buildSlice 31 1 #[(0,.tmp 225)],31, "index.go:58", #[⟨13,.data⟩],none⟩,⟨some 227,.call { callee:=.builtin .append,args:=#[.tmp 224,.tmp 226],argTypes:=#[31,31] },31, "index.go:58", #[⟨12,.data⟩,⟨14,.data⟩,⟨8,.chain⟩],none⟩,⟨some 228,.nilCheck (.tmp 212),0, "index.go:58", #[⟨0,.data⟩,⟨0,.phase⟩,{ on:=1,ground:=.textOnly Go.Departure.lateStores },⟨2,.phase⟩,⟨3,.phase⟩,⟨4,.phase⟩,⟨5,.phase⟩,⟨6,.phase⟩,⟨7,.phase⟩,⟨8,.phase⟩,{ on:=9,ground:=.textOnly Go.Departure.lateStores },{ on:=10,ground:=.textOnly Go.Departure.lateStoresUnsure },{ on:=11,ground:=.textOnly Go.Departure.lateStoresUnsure },⟨12,.phase⟩,{ on:=13,ground:=.textOnly Go.Departure.lateStores },{ on:=14,ground:=.textOnly Go.Departure.lateStoresUnsure },⟨15,.phase⟩],none⟩,⟨some 229,.fieldAddr 108 (.tmp 228) 5,0, "index.go:58", #[⟨16,.data⟩,⟨0,.phase⟩,{ on:=1,ground:=.textOnly Go.Departure.lateStores },⟨2,.phase⟩,⟨3,.phase⟩,⟨4,.phase⟩,⟨5,.phase⟩,⟨6,.phase⟩,⟨7,.phase⟩,⟨8,.phase⟩,{ on:=9,ground:=.textOnly Go.Departure.lateStores },{ on:=10,ground:=.textOnly Go.Departure.lateStoresUnsure },{ on:=11,ground:=.textOnly Go.Departure.lateStoresUnsure },⟨12,.phase⟩,{ on:=13,ground:=.textOnly Go.Departure.lateStores },{ on:=14,ground:=.textOnly Go.Departure.lateStoresUnsure },⟨15,.phase⟩],none⟩]) (by decide) (by kernel_rfl) (by rfl) (by rfl) ?_
                refine wpAny_of_heldS (S:=(fun w'=>w'.cell? ⟨PB,s * 7+5,none⟩=some (V4 (.out,s))∧w'.cell? ⟨PB,t * 7+6,none⟩=some (V4 (.into,t)))) ?_ (fun hHeld=>?_)
                · (try dsimp only) <;> (first | exact HS.out _ hB0.drew | exact HS.out _ (by assumption) | exact HS.out _ (HW1.out.mono hzW2) | exact HS.out _ (HW2.out.mono hzW2) | exact HS.out _ (hB10.trans ((below_al1 w10 _).mono (by have:=hB10.size;omega))))
                refine tk 0 rfl ?_
                try simp only [Act.put,lyA,lyZ,lyS]
                refine tk 2 rfl ?_
                try simp only [Act.put,lyA,lyZ,lyS]
                refine tk 3 rfl ?_
                try simp only [Act.put,lyA,lyZ,lyS]
                refine tk 4 rfl ?_
                try simp only [Act.put,lyA,lyZ,lyS]
                refine tk 5 rfl ?_
                try simp only [Act.put,lyA,lyZ,lyS]
                refine tk 6 rfl ?_
                try simp only [Act.put,lyA,lyZ,lyS]
                refine tk 9 rfl ?_
                try simp only [Act.put,lyA,lyZ,lyS]
                refine tk 10 rfl ?_
                try simp only [Act.put,lyA,lyZ,lyS]
                refine tk 11 rfl ?_
                try simp only [Act.put,lyA,lyZ,lyS]
                refine tk 12 rfl ?_
                try simp only [Act.put,lyA,lyZ,lyS]
                refine tk 13 rfl ?_
                try simp only [Act.put,lyA,lyZ,lyS]
                refine rdy [7,14] ?_
                refine rdC rfl (fun K hK=>?_) ?_
                (go_simp)
                refine hK.out _ _ ?_ (fun hH1=>?_)
                · (try dsimp only) <;> (first | exact HS.out _ hB0.drew | exact HS.out _ (by assumption) | exact HS.out _ (HW1.out.mono hzW2) | exact HS.out _ (HW2.out.mono hzW2) | exact HS.out _ (hB10.trans ((below_al1 w10 _).mono (by have:=hB10.size;omega))))
                clear hK K hHeld
                try simp only [Act.put,lyA,lyZ,lyS]
                refine rdy [8,14] ?_
                refine rdC rfl (fun K hK=>?_) ?_
                (first | ((refine step_append_lies _ (by rfl) _ _ _ (by rfl) N1 3 iI _ 1 8 Tryz.underlying31 hiI zI0 zI1 zI2 rfl (by omega) (V4 (.out,s)) nA (nums (F4 m k (.out,s))) (by rfl) HOA1.out _ 1 1 [.int .i64 k] (by rfl) (by rfl) (World.news_of_block (cs:=#[.int .i64 k]) (t:=3) (fr:=(0,0)) HK1.out) (by simp [Value.oneCell']) (by omega) (by unfold maxLen;omega) (by omega) (by first | omega | (simp;omega)) _ rfl ?_);intro gA cA w10 ow10 gr10 at10 lt10;obtain ⟨hB10,hO10,hK10,hZ10⟩:=HA.out _ HW1.out gA cA w10 gr10 at10 ow10;have hN10:N1≤w10.heap.size:=(by have:=hB10.size;omega);have HF10:=Lib.hid (HFin.out _ HW1.out gA cA w10 gr10 at10 ow10)) | ((refine step_append_lies _ (by rfl) _ _ _ (by rfl) N1 3 iI _ 1 8 Tryz.underlying31 hiI zI0 zI1 zI2 rfl (by omega) (V4 (.out,s)) nA (nums (F4 m k (.out,s))) (by rfl) HOA2.out _ 1 1 [.int .i64 k] (by rfl) (by rfl) (World.news_of_block (cs:=#[.int .i64 k]) (t:=3) (fr:=(0,0)) (by first | exact HK2.out | exact HK3.out)) (by simp [Value.oneCell']) (by omega) (by unfold maxLen;omega) (by omega) (by first | omega | (simp;omega)) _ rfl ?_);intro gA cA w10 ow10 gr10 at10 lt10;obtain ⟨hB10,hO10,hK10,hZ10⟩:=HA.out _ HW2.out gA cA w10 gr10 at10 ow10;have hN10:N1≤w10.heap.size:=(by have:=hB10.size;omega);have HF10:=Lib.hid (HFin.out _ HW2.out gA cA w10 gr10 at10 ow10)))
                refine hK.out _ _ ?_ (fun hH2=>?_)
                · (try dsimp only) <;> (first | exact HS.out _ hB0.drew | exact HS.out _ (by assumption) | exact HS.out _ (HW1.out.mono hzW2) | exact HS.out _ (HW2.out.mono hzW2) | exact HS.out _ (hB10.trans ((below_al1 w10 _).mono (by have:=hB10.size;omega))))
                clear hK K hH1
                try simp only [Act.put,lyA,lyZ,lyS]
                refine rdy [14] ?_
                refine rdC rfl (fun K hK=>?_) ?_
                (go_simp)
                refine hK.out _ _ ?_ (fun hH3=>?_)
                · (try dsimp only) <;> (first | exact HS.out _ hB0.drew | exact HS.out _ (by assumption) | exact HS.out _ (HW1.out.mono hzW2) | exact HS.out _ (HW2.out.mono hzW2) | exact HS.out _ (hB10.trans ((below_al1 w10 _).mono (by have:=hB10.size;omega))))
                clear hK K hH2
                try simp only [Act.put,lyA,lyZ,lyS]
                refine rdy [15] ?_
                refine rdC rfl (fun K hK=>?_) ?_
                (first | ((refine step_append_lies _ (by rfl) _ _ _ (by rfl) N1 3 iI _ 1 8 Tryz.underlying31 hiI zI0 zI1 zI2 rfl (by omega) (V4 (.into,t)) nB (nums (F4 m k (.into,t))) (by rfl) hO10 _ 1 1 [.int .i64 k] (by rfl) (by rfl) (World.news_of_block (cs:=#[.int .i64 k]) (t:=3) (fr:=(0,0)) ((hK10 _ (by omega) (by first | (simp;done) | (simp;omega))).trans (by first | exact HK2.out | exact HK3.out))) (by simp [Value.oneCell']) (by omega) (by unfold maxLen;omega) (by omega) (by first | omega | (simp;omega)) _ rfl ?_);intro gB cB w15 ow15 gr15 at15 lt15;obtain ⟨hfin,hmk,hB15,qA15,qB15,fA15,fB15⟩:=HF10.out _ (Below.refl _ _) gB cB w15 gr15 at15 ow15) | ((refine step_append_lies _ (by rfl) _ _ _ (by rfl) N1 3 iI _ 1 8 Tryz.underlying31 hiI zI0 zI1 zI2 rfl (by omega) (V4 (.into,t)) nB (nums (F4 m k (.into,t))) (by rfl) (hO10.alloc _) _ 1 1 [.int .i64 k] (by rfl) (by rfl) (World.news_of_block (cs:=#[.int .i64 k]) (t:=3) (fr:=(0,0)) (alloc1_at w10 _)) (by simp [Value.oneCell']) (by omega) (by unfold maxLen;omega) (by omega) (by first | omega | (simp;omega)) _ rfl ?_);intro gB cB w15 ow15 gr15 at15 lt15;obtain ⟨hfin,hmk,hB15,qA15,qB15,fA15,fB15⟩:=HF10.out _ (below_al1 w10 _) gB cB w15 gr15 at15 ow15))
                refine hK.out _ _ ?_ (fun hH4=>?_)
                · (try dsimp only) <;> (first | exact HS.out _ hB0.drew | exact HS.out _ (by assumption) | exact HS.out _ (HW1.out.mono hzW2) | exact HS.out _ (HW2.out.mono hzW2) | exact HS.out _ (hB10.trans ((below_al1 w10 _).mono (by have:=hB10.size;omega))))
                clear hK K hH3
                try simp only [Act.put,lyA,lyZ,lyS]
                refine tk 16 rfl ?_
                try simp only [Act.put,lyA,lyZ,lyS]
                refine tk 17 rfl ?_
                try simp only [Act.put,lyA,lyZ,lyS]
                refine wpAnyH_done (by kernel_rfl) ?_ _
                rotate_left
                exact AllReadyH.nil
                exact AllReadyH.nil
                refine rdC rfl (fun K hK=>?_) ?_
                (go_simp)
                refine hK.out _ _ ?_ (fun hH5=>?_)
                · (try dsimp only) <;> (first | exact HS.out _ hB0.drew | exact HS.out _ (by assumption) | exact HS.out _ (HW1.out.mono hzW2) | exact HS.out _ (HW2.out.mono hzW2) | exact HS.out _ (hB10.trans ((below_al1 w10 _).mono (by have:=hB10.size;omega))))
                clear hK K hH1
                try simp only [Act.put,lyA,lyZ,lyS]
                refine rdy [8] ?_
                refine rdC rfl (fun K hK=>?_) ?_
                (first | ((refine step_append_lies _ (by rfl) _ _ _ (by rfl) N1 3 iI _ 1 8 Tryz.underlying31 hiI zI0 zI1 zI2 rfl (by omega) (V4 (.out,s)) nA (nums (F4 m k (.out,s))) (by rfl) HOA1.out _ 1 1 [.int .i64 k] (by rfl) (by rfl) (World.news_of_block (cs:=#[.int .i64 k]) (t:=3) (fr:=(0,0)) HK1.out) (by simp [Value.oneCell']) (by omega) (by unfold maxLen;omega) (by omega) (by first | omega | (simp;omega)) _ rfl ?_);intro gA cA w10 ow10 gr10 at10 lt10;obtain ⟨hB10,hO10,hK10,hZ10⟩:=HA.out _ HW1.out gA cA w10 gr10 at10 ow10;have hN10:N1≤w10.heap.size:=(by have:=hB10.size;omega);have HF10:=Lib.hid (HFin.out _ HW1.out gA cA w10 gr10 at10 ow10)) | ((refine step_append_lies _ (by rfl) _ _ _ (by rfl) N1 3 iI _ 1 8 Tryz.underlying31 hiI zI0 zI1 zI2 rfl (by omega) (V4 (.out,s)) nA (nums (F4 m k (.out,s))) (by rfl) HOA2.out _ 1 1 [.int .i64 k] (by rfl) (by rfl) (World.news_of_block (cs:=#[.int .i64 k]) (t:=3) (fr:=(0,0)) (by first | exact HK2.out | exact HK3.out)) (by simp [Value.oneCell']) (by omega) (by unfold maxLen;omega) (by omega) (by first | omega | (simp;omega)) _ rfl ?_);intro gA cA w10 ow10 gr10 at10 lt10;obtain ⟨hB10,hO10,hK10,hZ10⟩:=HA.out _ HW2.out gA cA w10 gr10 at10 ow10;have hN10:N1≤w10.heap.size:=(by have:=hB10.size;omega);have HF10:=Lib.hid (HFin.out _ HW2.out gA cA w10 gr10 at10 ow10)))
                refine hK.out _ _ ?_ (fun hH6=>?_)
                · (try dsimp only) <;> (first | exact HS.out _ hB0.drew | exact HS.out _ (by assumption) | exact HS.out _ (HW1.out.mono hzW2) | exact HS.out _ (HW2.out.mono hzW2) | exact HS.out _ (hB10.trans ((below_al1 w10 _).mono (by have:=hB10.size;omega))))
                clear hK K hH5
                try simp only [Act.put,lyA,lyZ,lyS]
                refine rdy [15] ?_
                refine rdC rfl (fun K hK=>?_) ?_
                (first | ((refine step_append_lies _ (by rfl) _ _ _ (by rfl) N1 3 iI _ 1 8 Tryz.underlying31 hiI zI0 zI1 zI2 rfl (by omega) (V4 (.into,t)) nB (nums (F4 m k (.into,t))) (by rfl) hO10 _ 1 1 [.int .i64 k] (by rfl) (by rfl) (World.news_of_block (cs:=#[.int .i64 k]) (t:=3) (fr:=(0,0)) ((hK10 _ (by omega) (by first | (simp;done) | (simp;omega))).trans (by first | exact HK2.out | exact HK3.out))) (by simp [Value.oneCell']) (by omega) (by unfold maxLen;omega) (by omega) (by first | omega | (simp;omega)) _ rfl ?_);intro gB cB w15 ow15 gr15 at15 lt15;obtain ⟨hfin,hmk,hB15,qA15,qB15,fA15,fB15⟩:=HF10.out _ (Below.refl _ _) gB cB w15 gr15 at15 ow15) | ((refine step_append_lies _ (by rfl) _ _ _ (by rfl) N1 3 iI _ 1 8 Tryz.underlying31 hiI zI0 zI1 zI2 rfl (by omega) (V4 (.into,t)) nB (nums (F4 m k (.into,t))) (by rfl) (hO10.alloc _) _ 1 1 [.int .i64 k] (by rfl) (by rfl) (World.news_of_block (cs:=#[.int .i64 k]) (t:=3) (fr:=(0,0)) (alloc1_at w10 _)) (by simp [Value.oneCell']) (by omega) (by unfold maxLen;omega) (by omega) (by first | omega | (simp;omega)) _ rfl ?_);intro gB cB w15 ow15 gr15 at15 lt15;obtain ⟨hfin,hmk,hB15,qA15,qB15,fA15,fB15⟩:=HF10.out _ (below_al1 w10 _) gB cB w15 gr15 at15 ow15))
                refine hK.out _ _ ?_ (fun hH7=>?_)
                · (try dsimp only) <;> (first | exact HS.out _ hB0.drew | exact HS.out _ (by assumption) | exact HS.out _ (HW1.out.mono hzW2) | exact HS.out _ (HW2.out.mono hzW2) | exact HS.out _ (hB10.trans ((below_al1 w10 _).mono (by have:=hB10.size;omega))))
                clear hK K hH6
                try simp only [Act.put,lyA,lyZ,lyS]
                refine tk 16 rfl ?_
                try simp only [Act.put,lyA,lyZ,lyS]
                refine tk 17 rfl ?_
                try simp only [Act.put,lyA,lyZ,lyS]
                refine wpAnyH_done (by kernel_rfl) ?_ _
                rotate_left
                exact AllReadyH.nil
                exact AllReadyH.nil
                exact AllReadyH.nil
                refine rdC rfl (fun K hK=>?_) ?_
                (go_simp)
                refine hK.out _ _ ?_ (fun hH8=>?_)
                · (try dsimp only) <;> (first | exact HS.out _ hB0.drew | exact HS.out _ (by assumption) | exact HS.out _ (HW1.out.mono hzW2) | exact HS.out _ (HW2.out.mono hzW2) | exact HS.out _ (hB10.trans ((below_al1 w10 _).mono (by have:=hB10.size;omega))))
                clear hK K hHeld
                try simp only [Act.put,lyA,lyZ,lyS]
                refine rdy [7] ?_
                refine rdC rfl (fun K hK=>?_) ?_
                (go_simp)
                refine hK.out _ _ ?_ (fun hH9=>?_)
                · (try dsimp only) <;> (first | exact HS.out _ hB0.drew | exact HS.out _ (by assumption) | exact HS.out _ (HW1.out.mono hzW2) | exact HS.out _ (HW2.out.mono hzW2) | exact HS.out _ (hB10.trans ((below_al1 w10 _).mono (by have:=hB10.size;omega))))
                clear hK K hH8
                try simp only [Act.put,lyA,lyZ,lyS]
                refine rdy [8] ?_
                refine rdC rfl (fun K hK=>?_) ?_
                (first | ((refine step_append_lies _ (by rfl) _ _ _ (by rfl) N1 3 iI _ 1 8 Tryz.underlying31 hiI zI0 zI1 zI2 rfl (by omega) (V4 (.out,s)) nA (nums (F4 m k (.out,s))) (by rfl) HOA1.out _ 1 1 [.int .i64 k] (by rfl) (by rfl) (World.news_of_block (cs:=#[.int .i64 k]) (t:=3) (fr:=(0,0)) HK1.out) (by simp [Value.oneCell']) (by omega) (by unfold maxLen;omega) (by omega) (by first | omega | (simp;omega)) _ rfl ?_);intro gA cA w10 ow10 gr10 at10 lt10;obtain ⟨hB10,hO10,hK10,hZ10⟩:=HA.out _ HW1.out gA cA w10 gr10 at10 ow10;have hN10:N1≤w10.heap.size:=(by have:=hB10.size;omega);have HF10:=Lib.hid (HFin.out _ HW1.out gA cA w10 gr10 at10 ow10)) | ((refine step_append_lies _ (by rfl) _ _ _ (by rfl) N1 3 iI _ 1 8 Tryz.underlying31 hiI zI0 zI1 zI2 rfl (by omega) (V4 (.out,s)) nA (nums (F4 m k (.out,s))) (by rfl) HOA2.out _ 1 1 [.int .i64 k] (by rfl) (by rfl) (World.news_of_block (cs:=#[.int .i64 k]) (t:=3) (fr:=(0,0)) (by first | exact HK2.out | exact HK3.out)) (by simp [Value.oneCell']) (by omega) (by unfold maxLen;omega) (by omega) (by first | omega | (simp;omega)) _ rfl ?_);intro gA cA w10 ow10 gr10 at10 lt10;obtain ⟨hB10,hO10,hK10,hZ10⟩:=HA.out _ HW2.out gA cA w10 gr10 at10 ow10;have hN10:N1≤w10.heap.size:=(by have:=hB10.size;omega);have HF10:=Lib.hid (HFin.out _ HW2.out gA cA w10 gr10 at10 ow10)))
                refine hK.out _ _ ?_ (fun hH10=>?_)
                · (try dsimp only) <;> (first | exact HS.out _ hB0.drew | exact HS.out _ (by assumption) | exact HS.out _ (HW1.out.mono hzW2) | exact HS.out _ (HW2.out.mono hzW2) | exact HS.out _ (hB10.trans ((below_al1 w10 _).mono (by have:=hB10.size;omega))))
                clear hK K hH9
                try simp only [Act.put,lyA,lyZ,lyS]
                refine rdy [15] ?_
                refine rdC rfl (fun K hK=>?_) ?_
                (first | ((refine step_append_lies _ (by rfl) _ _ _ (by rfl) N1 3 iI _ 1 8 Tryz.underlying31 hiI zI0 zI1 zI2 rfl (by omega) (V4 (.into,t)) nB (nums (F4 m k (.into,t))) (by rfl) hO10 _ 1 1 [.int .i64 k] (by rfl) (by rfl) (World.news_of_block (cs:=#[.int .i64 k]) (t:=3) (fr:=(0,0)) ((hK10 _ (by omega) (by first | (simp;done) | (simp;omega))).trans (by first | exact HK2.out | exact HK3.out))) (by simp [Value.oneCell']) (by omega) (by unfold maxLen;omega) (by omega) (by first | omega | (simp;omega)) _ rfl ?_);intro gB cB w15 ow15 gr15 at15 lt15;obtain ⟨hfin,hmk,hB15,qA15,qB15,fA15,fB15⟩:=HF10.out _ (Below.refl _ _) gB cB w15 gr15 at15 ow15) | ((refine step_append_lies _ (by rfl) _ _ _ (by rfl) N1 3 iI _ 1 8 Tryz.underlying31 hiI zI0 zI1 zI2 rfl (by omega) (V4 (.into,t)) nB (nums (F4 m k (.into,t))) (by rfl) (hO10.alloc _) _ 1 1 [.int .i64 k] (by rfl) (by rfl) (World.news_of_block (cs:=#[.int .i64 k]) (t:=3) (fr:=(0,0)) (alloc1_at w10 _)) (by simp [Value.oneCell']) (by omega) (by unfold maxLen;omega) (by omega) (by first | omega | (simp;omega)) _ rfl ?_);intro gB cB w15 ow15 gr15 at15 lt15;obtain ⟨hfin,hmk,hB15,qA15,qB15,fA15,fB15⟩:=HF10.out _ (below_al1 w10 _) gB cB w15 gr15 at15 ow15))
                refine hK.out _ _ ?_ (fun hH11=>?_)
                · (try dsimp only) <;> (first | exact HS.out _ hB0.drew | exact HS.out _ (by assumption) | exact HS.out _ (HW1.out.mono hzW2) | exact HS.out _ (HW2.out.mono hzW2) | exact HS.out _ (hB10.trans ((below_al1 w10 _).mono (by have:=hB10.size;omega))))
                clear hK K hH10
                try simp only [Act.put,lyA,lyZ,lyS]
                refine tk 16 rfl ?_
                try simp only [Act.put,lyA,lyZ,lyS]
                refine tk 17 rfl ?_
                try simp only [Act.put,lyA,lyZ,lyS]
                refine wpAnyH_done (by kernel_rfl) ?_ _
                rotate_left
                exact AllReadyH.nil
                exact AllReadyH.nil
                exact AllReadyH.nil
                exact AllReadyH.nil
                all_goals
                  refine sinkQ_of fun K hK=>?_
                  go_simp
                  refine hK _ _ ?_
                  clear hK K
                  refine sinkQ_of fun K hK=>?_
                  go_simp
                  refine hK _ _ ?_
                  clear hK K
                  refine sinkQ_of fun K hK=>?_
                  go_simp
                  refine hK _ _ ?_
                  clear hK K
                  refine sinkQ_of fun K hK=>?_
                  go_simp
                  refine hK _ _ ?_
                  clear hK K
                  go_wp2_with fail
                  go_roundw
                  case rel=>exact ⟨k+1,_,by omega,by go_num,hmk,hfin⟩
                  case measure=>simp [intOf] <;> omega
            · have hke:k=m.trns.length:=by omega
              subst hke
              have e1:=HI.out.x
              go_wp2_with fail
              refine post_ret (n0:=N1) HM.out (results_tmp2 rfl _ _ _) ?_
              have hsh:=HI.out.shut HD.out hz5 HM.out
              exact ⟨IB,rfl,HBel.out _ hsh.bel,w4,N1,PB,KB,MO,MP,XB,cp,V4,H4.out.1.size,hz5,HD.out,hsh⟩
end Go.Proofs
