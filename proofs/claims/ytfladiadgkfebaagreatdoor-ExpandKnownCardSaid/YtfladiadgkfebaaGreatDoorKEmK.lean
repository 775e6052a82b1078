/- Walks: 'shifted' of the program's expand: a model of one's own, with greater numbers. -/
import Derived.Test.YtfladiadgkfebaaGreatDoorKEmGH
import Derived.Test.YtfladiadgkfebaaGreatDoorKEmIJ
namespace Go.Proofs
open Go.RowKit Go.Lx Go.Md Go.Shelf Go.BigFrame Go.Rgi
open Lib(hid)
set_option maxRecDepth 100000
set_option maxHeartbeats 0
set_option linter.unusedVariables false
def T3 (T:TypeId):Prop:=T=57\/T=49\/T=59
theorem GrT.r3 {lo:Nat} {w w':World} (h:GrT lo (· = 57) w w'):GrT lo T3 w w':=h.wide (Nat.le_refl _) fun _ h=>.inl h
theorem GrT.v3 {lo:Nat} {w w':World} (h:GrT lo (· = 49) w w'):GrT lo T3 w w':=h.wide (Nat.le_refl _) fun _ h=>.inr (.inl h)
theorem GrT.t3 {lo:Nat} {w w':World} (h:GrT lo (· = 59) w w'):GrT lo T3 w w':=h.wide (Nat.le_refl _) fun _ h=>.inr (.inr h)
theorem GrT.same {lo:Nat} {S:TypeId->Prop} {w w':World} (h:GrT lo S w w') {b:Nat} {cur:Array Value} {T:TypeId} {fr:Nat × Nat} (hb:w.heap[b]? = some (.cells cur T fr)) (hT:¬ S T):w'.heap[b]? = some (.cells cur T fr) :=
 (h.block b (Array.getElem?_eq_some_iff.1 hb).1 fun T' hT' hq=>by
   obtain ⟨_,c,e⟩:=hq
   rw [hb] at e
   simp only [Option.some.injEq,Obj.cells.injEq] at e
   exact hT (by rw [e.2.1];exact hT')).trans hb
theorem box_at {w:World} {H:Nat} {T:TypeId} {v0 v1 v2 v3 v4 v5:Value} (h:w.heap[H]? = some (.cells #[v0,v1,v2,v3,v4,v5] T (0,0))):Box w H v0 v1 v2 v3 v4 v5:=by
 constructor <;> first | (unfold World.cell?;simp only [h];rfl) | (unfold World.frozen?;simp [h])
theorem cell_at {w:World} {H:Nat} {T:TypeId} {v:Value} (h:w.heap[H]? = some (.cells #[v] T (0,0))):w.cell? ⟨H,0,none⟩=some v:=by
 unfold World.cell?;simp only [h];rfl
def shM (r v s:Nat) (m:MdlD):MdlD:={ m with regs:=mvR s v m.regs,vers:=m.vers.map (mvV r v),trns:=m.trns.map (mvT v) }
def fR (v:Nat) (x:RegD):RegD:={ x with own:=shB v x.own }
def fT (v:Nat) (x:TrnD):TrnD:={ x with src:=shB v x.src,tgt:=shB v x.tgt }
theorem shB_pos {v:Nat} {x:Int} (h:0<=x):shB v x=x+v:=by unfold shB;rw [if_neg (by omega)]
theorem fR_all {m:MdlD} (h:San m) (s v:Nat):(m.regs.map (fR v)).modify 0 (fun x=>{ x with own:=(s:Int) })=mvR s v m.regs:=by
 obtain ⟨r,t,e,_,_,h3⟩:=h.own
 rw [e]
 simp only [List.map_cons,List.modify_zero_cons,mvR,fR]
 congr 1
 refine List.map_congr_left fun x hx=>?_
 show RegD.mk x.nm (shB v x.own)=_
 rw [shB_pos (h3 x hx).1]
theorem fT_all {m:MdlD} (h:San m) (v:Nat):m.trns.map (fT v)=m.trns.map (mvT v) :=
 List.map_congr_left fun x hx=>by
   have:=h.trn x hx
   show TrnD.mk x.nm (shB v x.src) (shB v x.tgt) x.tr x.af x.gd x.ef x.kd=_
   rw [shB_pos this.1,shB_pos this.2.2.1]
   rfl
structure AtB (H:Nat) (w w':World):Prop where
 os:w'.os=w.os
 tape:w'.tape=w.tape
 output:w'.output=w.output
 size:w'.heap.size=w.heap.size
 block:∀ b,b≠H->w'.heap[b]? = w.heap[b]?
theorem AtB.refl (H:Nat) (w:World):AtB H w w:=⟨rfl,rfl,rfl,rfl,fun _ _=>rfl⟩
theorem AtB.set {H:Nat} {a w:World} (h:AtB H a w) (o:Nat) (u:Value):AtB H a (w.setCell ⟨H,o,none⟩ u) :=
 ⟨h.os,h.tape,h.output,by simp [h.size],fun b hb=>(Below.heap_setCell w ⟨H,o,none⟩ u b hb).trans (h.block b hb)⟩
theorem AtB.below {H B:Nat} {w w':World} (h:AtB H w w') (hB:B<=H):Below B w w':=⟨h.os,h.tape,h.output,by rw [h.size];exact Nat.le_refl _,fun b hb=>h.block b (by omega)⟩
theorem AtB.kept {H:Nat} {w w':World} (h:AtB H w w') {Q:BP} (hQ:¬ Q H w.heap[H]?):Kept Q w w':=⟨by rw [h.size];exact Nat.le_refl _,fun b hb hq=>h.block b fun e=>hQ (by rw [<- e];exact hq)⟩
theorem OwnV.kept {lo:Nat} {T:TypeId} {sz:Nat} {w w':World} {v:Value} (h:OwnV lo T sz w v) (hk:Kept (TB lo T) w w'):OwnV lo T sz w' v:=by
 rcases h with h | ⟨g,n,c,cur,rfl,h1,h2,h3⟩
 . exact .inl h
 . exact .inr ⟨g,n,c,cur,rfl,h1,by rw [hk.2 g (Array.getElem?_eq_some_iff.1 h2).1 (by rw [h2];exact ⟨h1,cur,rfl⟩)];exact h2,h3⟩
theorem OwnM.kept {lo:Nat} {w w':World} {m:MdlD} {p:Ph} (h:OwnM lo w m p) (hk:∀ j,Kept (TB lo (TT j)) w w'):OwnM lo w' m p :=
 ⟨h.mod.kept hk,⟨h.own.o1.kept (hk 0),h.own.o2.kept (hk 1),h.own.o3.kept (hk 2),h.own.o4.kept (hk 3),h.own.o5.kept (hk 4)⟩⟩
theorem TT_ne (j:Nat):TT j≠42:=by
 match j with
 | 0=>decide
 | 1=>decide
 | 2=>decide
 | 3=>decide
 | 4=>decide
 | n+5=>show 9≠42;decide
theorem OwnM.box {lo:Nat} {w w':World} {m:MdlD} {p:Ph} (h:OwnM lo w m p) {H:Nat} (hw:AtB H w w') {cur:Array Value} {fr:Nat × Nat} (hH:w.heap[H]? = some (.cells cur 42 fr)):OwnM lo w' m p :=
 h.kept fun j=>hw.kept fun hq=>by
   obtain ⟨_,c,e⟩:=hq
   rw [hH] at e
   simp only [Option.some.injEq,Obj.cells.injEq] at e
   exact TT_ne j e.2.1.symm
theorem GrT.far {lo:Nat} {S:TypeId->Prop} {a b c:World} (h:GrT lo S a b) (g:Below a.heap.size b c):GrT lo S a c :=
 ⟨g.os.trans h.os,g.tape.trans h.tape,g.output.trans h.output,Nat.le_trans h.size g.size,fun x hx hn=>(g.block x hx).trans (h.block x hx hn),fun x T cur hx=>by
   obtain ⟨c1,h1,e1⟩:=h.typ x T cur hx
   exact ⟨c1,(g.block x (Array.getElem?_eq_some_iff.1 hx).1).trans h1,e1⟩⟩
theorem objs3 (w:World) (a b c:Obj):(((w.alloc a).alloc b).alloc c).heap[w.heap.size]? = some a/\(((w.alloc a).alloc b).alloc c).heap[w.heap.size+1]? = some b/\(((w.alloc a).alloc b).alloc c).heap[w.heap.size+1+1]? = some c:=by
 have e1:(w.alloc a).heap.size=w.heap.size+1:=by simp
 have e2:((w.alloc a).alloc b).heap.size=w.heap.size+1+1:=by simp
 refine ⟨?_,?_,?_⟩
 . rw [Below.heap_alloc _ _ _ (by omega),Below.heap_alloc _ _ _ (by omega),World.alloc_heap_new]
 . rw [Below.heap_alloc _ _ _ (by omega),<- e1,World.alloc_heap_new]
 . rw [<- e2,World.alloc_heap_new]
theorem san_reg {m:MdlD} (h:San m) {x:RegD} (hx:x ∈ m.regs):-1<=x.own/\x.own<m.vers.length:=by
 obtain ⟨r,t,e,h1,h2,h3⟩:=h.own
 rw [e] at hx
 rcases List.mem_cons.1 hx with rfl | hx
 . exact ⟨h1,h2⟩
 . have:=h3 x hx;omega
def ShS (lo:Nat) (m:MdlD) (p:Ph) (W1:World) (R:List RegD) (V:List VerD) (T:List TrnD) (wr:World):Prop:=OwnM lo wr { m with regs:=R,vers:=V,trns:=T } p/\GrT lo T3 W1 wr
theorem shifted_any (lo:Nat) (m:MdlD) (p:Ph) (r v s:Nat) (w:World) (h:OwnM lo w m p) (hs:San m) (hl:LeS (lens m) (1000000,1000000,1000000)) (hr:r<=1000000) (hv:v<=1000000) (hlo:lo<=w.heap.size) :
   Calls Tryz.prog 53 #[mdV m p,.int .i64 r,.int .i64 v,.int .i64 s] w fun e w'=>e=.returned (mdV m p)/\OwnM lo w' (shM r v s m) p/\GrT lo T3 w w':=by
 obtain ⟨l1,l2,l3⟩:=hl
 unfold lens at l1 l2 l3
 dsimp only at l1 l2 l3
 have HSan:=hid hs
 have HM:=hid h
 unfold mdV
 clear hs h
 go_enter Tryz.func53,Tryz.ntmps53
 go_upto_region 1 with fail
 have hO:=objs3 w (.cells #[.string m.nm,.slice p.a1 m.vars.length p.c1,.slice p.a2 m.evs.length p.c2,.slice p.a3 m.regs.length p.c3,.slice p.a4 m.vers.length p.c4,.slice p.a5 m.trns.length p.c5] 42) (.cells #[.int .i64 v] 3) zeroM
 have hB1:Bl w (((w.alloc (.cells #[.string m.nm,.slice p.a1 m.vars.length p.c1,.slice p.a2 m.evs.length p.c2,.slice p.a3 m.regs.length p.c3,.slice p.a4 m.vers.length p.c4,.slice p.a5 m.trns.length p.c5] 42)).alloc (.cells #[.int .i64 v] 3)).alloc zeroM):=((below_al2 w _ _).alloc (by simp;omega) _)
 have hz1:(((w.alloc (.cells #[.string m.nm,.slice p.a1 m.vars.length p.c1,.slice p.a2 m.evs.length p.c2,.slice p.a3 m.regs.length p.c3,.slice p.a4 m.vers.length p.c4,.slice p.a5 m.trns.length p.c5] 42)).alloc (.cells #[.int .i64 v] 3)).alloc zeroM).heap.size=w.heap.size+1+1+1:=by simp
 have hM1:=HM.o.below hB1
 unfold zeroM at hO hB1 hz1 hM1
 generalize (((w.alloc (.cells #[.string m.nm,.slice p.a1 m.vars.length p.c1,.slice p.a2 m.evs.length p.c2,.slice p.a3 m.regs.length p.c3,.slice p.a4 m.vers.length p.c4,.slice p.a5 m.trns.length p.c5] 42)).alloc (.cells #[.int .i64 v] 3)).alloc (.cells #[.string ⟨#[]⟩,.slice none 0 0,.slice none 0 0,.slice none 0 0,.slice none 0 0,.slice none 0 0] 42))=W1 at *
 have HK:Hid (∀ wx,GrT lo T3 W1 wx->Box wx w.heap.size (.string m.nm) (.slice p.a1 m.vars.length p.c1) (.slice p.a2 m.evs.length p.c2) (.slice p.a3 m.regs.length p.c3) (.slice p.a4 m.vers.length p.c4) (.slice p.a5 m.trns.length p.c5)/\wx.cell? ⟨w.heap.size+1,0,none⟩=some (.int .i64 v)/\wx.heap[w.heap.size+1+1]? = some zeroM/\w.heap.size+1+1<wx.heap.size):=hid fun wx g =>
   ⟨box_at (g.same hO.1 (by unfold T3;decide)),cell_at (g.same hO.2.1 (by unfold T3;decide)),g.same hO.2.2 (by unfold T3;decide),by have:=g.size;omega⟩
 have H0:Hid (ShS lo m p W1 m.regs m.vers m.trns W1):=hid ⟨hM1,GrT.refl _ _ _⟩
 have HG1:Hid (GrT lo T3 w W1):=hid (GrT.of_below hB1)
 have HCL:Hid (∀ (x:Int) (wx:World),-9223372036854775808<=x+v->x+v<=9223372036854775807->wx.cell? ⟨w.heap.size+1,0,none⟩=some (.int .i64 v)->Calls Tryz.prog 91 #[.int .i64 x,.pointer (some ⟨w.heap.size+1,0,none⟩)] wx fun e w'=>e=.returned (.int .i64 (shB v x))/\w'=wx):=hid fun x wx h1 h2 h=>shifted1_any x v (w.heap.size+1) wx h h1 h2
 clear hO hB1 hz1 hM1
 obtain ⟨⟨b0,b1,b2,b3,b4,b5,_⟩,c1,_,hz⟩:=HK.o W1 (GrT.refl _ _ _)
 go_wp2_with fail
 go_loopw [19] (fun i wr=>∃ k:Nat,k<=m.regs.length/\i=.int .i64 k/\ShS lo m p W1 (upTo (fR v) k m.regs) m.vers m.trns wr) (fun i _=>m.regs.length - (intOf i).toNat)
 case atStart=>exact ⟨0,by omega,rfl,by rw [upTo_zero];exact H0.o⟩
 case round =>
  clear b0 b1 b2 b3 b4 b5 c1 hz H0
  obtain ⟨wo,rfl⟩:=ex1 wr
  obtain ⟨k,hk,rfl,hst⟩:=hrel
  have HST:=hid hst
  by_cases hlt:k<m.regs.length
  . have hkI:(k:Int)<(m.regs.length:Int):=by omega
    have hk0:(0:Int)<=(k:Int):=by omega
    have hku:k<(upTo (fR v) k m.regs).length:=by rw [upTo_len];exact hlt
    obtain ⟨b,o,ha,hbl,he⟩:=hst.1.mod.regs.get hku
    rw [upTo_at hlt,if_neg (Nat.lt_irrefl k)] at he
    have hown:=san_reg HSan.o (List.getElem_mem hlt)
    obtain ⟨x,hx⟩:=ex2 (m.regs[k])
    rw [hx] at he hown
    have hTB:=(hst.1.mod.regs.block ha (by rw [upTo_len];omega)).2
    have HB:Hid (∀ W',Bl wo W'->W'.cell? ⟨w.heap.size,3,none⟩=some (.slice (some ⟨b,o,none⟩) m.regs.length p.c3)/\W'.cell? ⟨b,o+k * 2+1,none⟩=some (.int .i64 x.own)/\W'.cell? ⟨w.heap.size+1,0,none⟩=some (.int .i64 v)):=hid fun W' g=>by
      obtain ⟨q,c1,_⟩:=HK.o W' (HST.o.2.trans (GrT.of_below g))
      have q3:=q.c3
      rw [ha] at q3
      exact ⟨q3,(g.cell (p:=⟨b,o+k * 2+1,none⟩) hbl).trans he.2,c1⟩
    have HF:Hid (∀ W',Bl wo W'->W'.frozen? ⟨b,o+k * 2+1,none⟩=false/\ShS lo m p W1 (upTo (fR v) (k+1) m.regs) m.vers m.trns (W'.setCell ⟨b,o+k * 2+1,none⟩ (.int .i64 (shB v x.own)))):=hid fun W' g=>by
      have hs':=HST.o.1.below g
      obtain ⟨g1,g2⟩:=hs'.regOwn ha hku (shB v x.own)
      have e:(upTo (fR v) k m.regs).modify k (fun y=>{ y with own:=shB v x.own })=upTo (fR v) (k+1) m.regs:=upTo_step hlt (by rw [hx];rfl)
      dsimp only at g1
      rw [e] at g1
      exact ⟨(hs'.mod.regs.block ha (by rw [upTo_len];omega)).2.free,g1,(HST.o.2.trans (GrT.of_below g)).trans g2.r3⟩
    have HC1:=hid fun wx=>HCL.o x.own wx (by omega) (by omega)
    have hB0:Bl wo wo:=Below.refl _ _
    clear hst he hx hTB ha hown HST
    go_wp2_with fail
    refine wp_region_any (by kernel_rfl) ?_
    change wpAny _ _ _ _ _ _ _ (World.drew _)
    refine wpAny_sink (n:=13) (o:=⟨none,.store 3 (.tmp 34) (.tmp 32),0, "expand.go:110", #[⟨12,.data⟩,⟨10,.data⟩,⟨10,.chain⟩,⟨0,.phase⟩,⟨1,.phase⟩,⟨2,.phase⟩,⟨3,.phase⟩,⟨4,.phase⟩,⟨5,.phase⟩,⟨6,.phase⟩,⟨7,.phase⟩,⟨8,.phase⟩,⟨9,.phase⟩,⟨10,.phase⟩],none⟩) (ops':=#[⟨some 22,.fieldAddr 42 (.tmp 4) 3,0, "expand.go:110", #[],none⟩,⟨some 23,.load 38 (.tmp 22),38, "expand.go:110", #[⟨0,.data⟩],none⟩,⟨some 24,.move (.tmp 10),3, "expand.go:110", #[],none⟩,⟨some 25,.move (.tmp 9),125, "expand.go:110", #[],none⟩,⟨some 26,.fieldAddr 42 (.tmp 4) 3,0, "expand.go:110", #[],none⟩,⟨some 27,.load 38 (.tmp 26),38, "expand.go:110", #[⟨4,.data⟩],none⟩,⟨some 28,.move (.tmp 10),3, "expand.go:110", #[],none⟩,⟨some 29,.indexAddr 38 (.tmp 27) (.tmp 28),0, "expand.go:110", #[⟨5,.data⟩,⟨6,.data⟩],none⟩,⟨some 30,.fieldAddr 57 (.tmp 29) 1,0, "expand.go:110", #[⟨7,.data⟩],none⟩,⟨some 31,.load 3 (.tmp 30),3, "expand.go:110", #[⟨8,.data⟩],none⟩,⟨some 32,.call { callee:=.value (.tmp 25),args:=#[.tmp 31],argTypes:=#[3] },3, "expand.go:110", #[⟨3,.data⟩,⟨9,.data⟩],none⟩,⟨some 33,.indexAddr 38 (.tmp 23) (.tmp 24),0, "expand.go:110", #[⟨1,.data⟩,⟨2,.data⟩,⟨0,.phase⟩,⟨1,.phase⟩,⟨2,.phase⟩,⟨3,.phase⟩,⟨4,.phase⟩,⟨5,.phase⟩,⟨6,.phase⟩,⟨7,.phase⟩,⟨8,.phase⟩,⟨9,.phase⟩,⟨10,.phase⟩],none⟩,⟨some 34,.fieldAddr 57 (.tmp 33) 1,0, "expand.go:110", #[⟨11,.data⟩,⟨0,.phase⟩,⟨1,.phase⟩,⟨2,.phase⟩,⟨3,.phase⟩,⟨4,.phase⟩,⟨5,.phase⟩,⟨6,.phase⟩,⟨7,.phase⟩,⟨8,.phase⟩,⟨9,.phase⟩,⟨10,.phase⟩],none⟩]) (by decide) (by kernel_rfl) (by rfl) (by rfl) ?_
    refine hld HB.o (hB0.drew) (fun hHeld=>?_)
    refine tk 0 rfl ?_
    refine tk 1 rfl ?_
    refine tk 2 rfl ?_
    refine tk 3 rfl ?_
    refine tk 4 rfl ?_
    refine tk 5 rfl ?_
    refine tk 6 rfl ?_
    refine tk 7 rfl ?_
    refine tk 8 rfl ?_
    refine tk 9 rfl ?_
    refine rd1 10 (fun K hK=>?_)
    (go_simp;(with_reducible refine (HC1.o _ (HB.o _ hB0.drew).2.2).mono ?_);rintro e w9 ⟨rfl,hw9⟩;have hB9:Bl wo w9:=(by rw [hw9];exact hB0.drew);clear hw9;go_wp2_with fail)
    refine nx hK ?_ (fun hH1=>?_)
    (first | exact HB.o _ hB0.drew | exact HB.o _ (by assumption))
    clear hK K hHeld
    refine tk 11 rfl ?_
    refine tk 12 rfl ?_
    refine dn ?_
    rotate_left
    all_goals
      refine sinkQ_of fun K hK=>?_
      obtain ⟨q1,q2,q3⟩:=HB.o _ hB9
      obtain ⟨hf,hF⟩:=HF.o _ hB9
      go_simp
      refine hK _ _ ?_
      clear hK K
      go_wp2_with fail
      go_roundw
      case rel=>exact ⟨k+1,by omega,by go_num,hF⟩
      case measure=>simp [intOf] <;> omega
  . obtain rfl:k=m.regs.length:=by omega
    rw [upTo_all] at HST
    clear hst hlt
    obtain ⟨⟨b0,b1,b2,b3,b4,b5,_⟩,c1,_,hz⟩:=HK.o wo HST.o.2
    -- the first region's owner
    obtain ⟨r0,t0,er,_⟩:=HSan.o.own
    have hpos:0<m.regs.length:=by rw [er];simp
    have hku:0<(m.regs.map (fR v)).length:=by rw [List.length_map];exact hpos
    obtain ⟨b,o,ha,hbl,he⟩:=HST.o.1.mod.regs.get hku
    obtain ⟨u0,hcu⟩:∃ u:Int,wo.cell? ⟨b,o+0 * 2+1,none⟩=some (.int .i64 u):=⟨_,he.2⟩
    have hfr:=(HST.o.1.mod.regs.block ha hku).2.free (k:=o+0 * 2+1)
    have HF:Hid (ShS lo m p W1 (mvR s v m.regs) m.vers m.trns (wo.setCell ⟨b,o+0 * 2+1,none⟩ (.int .i64 s))):=hid (by
      obtain ⟨g1,g2⟩:=HST.o.1.regOwn ha hku (s:Int)
      have e:=fR_all HSan.o s v
      dsimp only at g1
      rw [e] at g1
      exact ⟨g1,HST.o.2.trans g2.r3⟩)
    rw [ha] at b3
    rw [Nat.zero_mul,Nat.add_zero] at HF hcu hfr
    have hposI:(0:Int)<(m.regs.length:Int):=by omega
    clear he hku er ha HST
    go_upto_region 8 with fail
    generalize wo.setCell ⟨b,o+1,none⟩ (.int .i64 s)=W2 at *
    clear hcu hfr hbl hposI b0 b1 b2 b3 b4 b5 c1 hz
    obtain ⟨⟨b0,b1,b2,b3,b4,b5,_⟩,c1,_,hz⟩:=HK.o W2 HF.o.2
    go_wp2_with fail
    go_loopw [44] (fun i wr=>∃ k:Nat,k<=m.vers.length/\i=.int .i64 k/\ShS lo m p W1 (mvR s v m.regs) (upTo (mvV r v) k m.vers) m.trns wr) (fun i _=>m.vers.length - (intOf i).toNat)
    case atStart=>exact ⟨0,by omega,rfl,by rw [upTo_zero];exact HF.o⟩
    case round =>
     clear b0 b1 b2 b3 b4 b5 c1 hz HF
     obtain ⟨wo,rfl⟩:=ex1 wr
     obtain ⟨k,hk,rfl,hst⟩:=hrel
     have HST:=hid hst
     obtain ⟨⟨b0,b1,b2,b3,b4,b5,_⟩,c1,_,hz⟩:=HK.o wo hst.2
     by_cases hlt:k<m.vers.length
     . have hkI:(k:Int)<(m.vers.length:Int):=by omega
       have hk0:(0:Int)<=(k:Int):=by omega
       have hku:k<(upTo (mvV r v) k m.vers).length:=by rw [upTo_len];exact hlt
       obtain ⟨b,o,ha,hbl,he⟩:=hst.1.mod.vers.get hku
       rw [upTo_at hlt,if_neg (Nat.lt_irrefl k)] at he
       have hxx:=HSan.o.ver _ (List.getElem_mem hlt)
       obtain ⟨x,hx⟩:=ex2 (m.vers[k])
       rw [hx] at he hxx
       obtain ⟨dv,_,_,_,x2,x3,_⟩:=he
       have hf2:=(hst.1.mod.vers.block ha (by rw [upTo_len];omega)).2.free (k:=o+k * 8+2)
       have hf3:=(hst.1.mod.vers.block ha (by rw [upTo_len];omega)).2.free (k:=o+k * 8+3)
       have HC1:=hid (HCL.o x.ofv wo (by omega) (by omega) c1)
       rw [ha] at b4
       have HX:=hid hx
       -- behind the first store
       obtain ⟨t,ht⟩:=ex2 (shB v x.ofv)
       rw [ht] at HC1
       have HF1:Hid (∀ u:Int,OwnM lo (wo.setCell ⟨b,o+k * 8+3,none⟩ (.int .i64 t)) { m with regs:=mvR s v m.regs,vers:=(upTo (mvV r v) k m.vers).modify k (fun y=>{ y with ofv:=t }),trns:=m.trns } p/\GrT lo T3 W1 (wo.setCell ⟨b,o+k * 8+3,none⟩ (.int .i64 t))):=hid fun _=>by
         obtain ⟨g1,g2⟩:=HST.o.1.verOfv ha hku t
         exact ⟨g1,HST.o.2.trans g2.v3⟩
       by_cases hneg:t<0
       . have hs:x.ofv=t:=by
           unfold shB at ht
           split at ht
           . exact ht
           . omega
         have hw:IntKind.i64.wrap (x.rg+r)=x.rg+r:=IntWalk.i64_in _ ⟨by omega,by omega⟩
         have HF2:Hid (ShS lo m p W1 (mvR s v m.regs) (upTo (mvV r v) (k+1) m.vers) m.trns ((wo.setCell ⟨b,o+k * 8+3,none⟩ (.int .i64 t)).setCell ⟨b,o+k * 8+2,none⟩ (.int .i64 (x.rg+r)))):=hid (by
           obtain ⟨g1,g2⟩:=(HF1.o 0).1.verRg ha (by rw [List.length_modify];exact hku) (x.rg+r)
           have e:((upTo (mvV r v) k m.vers).modify k (fun y=>{ y with ofv:=t })).modify k (fun y=>{ y with rg:=x.rg+r })=upTo (mvV r v) (k+1) m.vers:=upTo_step2 hlt (by rw [HX.o];unfold mvV;rw [if_neg (by omega),<- hs])
           dsimp only at g1
           rw [e] at g1
           exact ⟨g1,(HF1.o 0).2.trans g2.v3⟩)
         clear hst hx ha HST HF1 hxx ht hs hku
         go_wp2_with fail
         (with_reducible refine (HC1.o).mono ?_)
         rintro e w9 ⟨rfl,hw9⟩
         have y2:(w9.setCell ⟨b,o+k * 8+3,none⟩ (.int .i64 t)).cell? ⟨b,o+k * 8+2,none⟩=some (.int .i64 x.rg):=by
           rw [hw9];exact (cell_off (k:=k) (i:=k) (d:=3) (j:=2) (sz:=8) (by decide) (by decide) (by omega)).trans x2
         have y3:(w9.setCell ⟨b,o+k * 8+3,none⟩ (.int .i64 t)).cell? ⟨b,o+k * 8+3,none⟩=some (.int .i64 t):=by
           rw [hw9];exact World.cell?_setCell_same _ _ _ x3
         have y4:(w9.setCell ⟨b,o+k * 8+3,none⟩ (.int .i64 t)).frozen? ⟨b,o+k * 8+2,none⟩=false:=by
           rw [hw9];simpa using hf2
         rw [<- hw9] at HF2 x3 hf3
         clear hw9 x2 hf2 b0 b1 b2 b3 b4 b5 c1 hz
         go_upto_region 13 with fail
         generalize w9.setCell ⟨b,o+k * 8+3,none⟩ (.int .i64 t)=W3 at *
         clear x3 hf3
         go_wp2_with fail
         go_roundw
         case rel=>exact ⟨k+1,by omega,by go_num,HF2.o⟩
         case measure=>simp [intOf] <;> omega
       . have HF2:Hid (ShS lo m p W1 (mvR s v m.regs) (upTo (mvV r v) (k+1) m.vers) m.trns (wo.setCell ⟨b,o+k * 8+3,none⟩ (.int .i64 t))):=hid (by
           obtain ⟨g1,g2⟩:=HF1.o 0
           have hp:0<=x.ofv/\x.ofv+v=t:=by
             unfold shB at ht
             split at ht
             . omega
             . omega
           have e:(upTo (mvV r v) k m.vers).modify k (fun y=>{ y with ofv:=t })=upTo (mvV r v) (k+1) m.vers:=upTo_step hlt (by rw [HX.o];unfold mvV;rw [if_pos hp.1,hp.2])
           rw [e] at g1
           exact ⟨g1,g2⟩)
         clear hst hx ha HST HF1 hxx ht hku
         go_wp2_with fail
         (with_reducible refine (HC1.o).mono ?_)
         rintro e w9 ⟨rfl,hw9⟩
         have y3:(w9.setCell ⟨b,o+k * 8+3,none⟩ (.int .i64 t)).cell? ⟨b,o+k * 8+3,none⟩=some (.int .i64 t):=by
           rw [hw9];exact World.cell?_setCell_same _ _ _ x3
         rw [<- hw9] at HF2 x3 hf3
         clear hw9 x2 hf2 b0 b1 b2 b3 b4 b5 c1 hz
         go_upto_region 13 with fail
         generalize w9.setCell ⟨b,o+k * 8+3,none⟩ (.int .i64 t)=W3 at *
         clear x3 hf3
         go_wp2_with fail
         go_roundw
         case rel=>exact ⟨k+1,by omega,by go_num,HF2.o⟩
         case measure=>simp [intOf] <;> omega
     . obtain rfl:k=m.vers.length:=by omega
       rw [upTo_all] at HST
       clear hst hlt
       go_wp2_with fail
       go_loopw [77] (fun i wr=>∃ k:Nat,k<=m.trns.length/\i=.int .i64 k/\ShS lo m p W1 (mvR s v m.regs) (m.vers.map (mvV r v)) (upTo (fT v) k m.trns) wr) (fun i _=>m.trns.length - (intOf i).toNat)
       case atStart=>exact ⟨0,by omega,rfl,by rw [upTo_zero];exact HST.o⟩
       case round =>
        clear b0 b1 b2 b3 b4 b5 c1 hz HST
        obtain ⟨wo,rfl⟩:=ex1 wr
        obtain ⟨k,hk,rfl,hst⟩:=hrel
        have HST:=hid hst
        obtain ⟨⟨b0,b1,b2,b3,b4,b5,_⟩,c1,hzm,hz⟩:=HK.o wo hst.2
        by_cases hlt:k<m.trns.length
        . have hkI:(k:Int)<(m.trns.length:Int):=by omega
          have hk0:(0:Int)<=(k:Int):=by omega
          have hku:k<(upTo (fT v) k m.trns).length:=by rw [upTo_len];exact hlt
          obtain ⟨b,o,ha,hbl,he⟩:=hst.1.mod.trns.get hku
          rw [upTo_at hlt,if_neg (Nat.lt_irrefl k)] at he
          have hxx:=HSan.o.trn _ (List.getElem_mem hlt)
          obtain ⟨x,hx⟩:=ex2 (m.trns[k])
          rw [hx] at he hxx
          obtain ⟨dv,_,_,x1,x2,_⟩:=he
          have hf1:=(hst.1.mod.trns.block ha (by rw [upTo_len];omega)).2.free (k:=o+k * 8+1)
          have hf2:=(hst.1.mod.trns.block ha (by rw [upTo_len];omega)).2.free (k:=o+k * 8+2)
          have HC1:=hid fun wx=>HCL.o x.src wx (by omega) (by omega)
          have HC2:=hid fun wx=>HCL.o x.tgt wx (by omega) (by omega)
          rw [ha] at b5
          have HF:Hid (∀ W',Bl wo W'->ShS lo m p W1 (mvR s v m.regs) (m.vers.map (mvV r v)) (upTo (fT v) (k+1) m.trns) ((W'.setCell ⟨b,o+k * 8+1,none⟩ (.int .i64 (shB v x.src))).setCell ⟨b,o+k * 8+2,none⟩ (.int .i64 (shB v x.tgt)))):=hid fun W' g=>by
            obtain ⟨g1,g2⟩:=(HST.o.1.below g).trnSrc ha hku (shB v x.src)
            obtain ⟨g3,g4⟩:=g1.trnTgt ha (by rw [List.length_modify];exact hku) (shB v x.tgt)
            have e:((upTo (fT v) k m.trns).modify k (fun y=>{ y with src:=shB v x.src })).modify k (fun y=>{ y with tgt:=shB v x.tgt })=upTo (fT v) (k+1) m.trns:=upTo_step2 hlt (by rw [hx];rfl)
            dsimp only at g3
            rw [e] at g3
            exact ⟨g3,((HST.o.2.trans (GrT.of_below g)).trans g2.t3).trans g4.t3⟩
          have hB0:Bl wo wo:=Below.refl _ _
          clear hst hx ha HST hxx hku
          go_upto_region 20 with fail
          have c1d:Hid (wo.drew.cell? ⟨w.heap.size+1,0,none⟩=some (.int .i64 v)):=hid c1
          go_region_law
            (first
              | (go_simp;(with_reducible refine (HC1.o _ c1d.o).mono ?_);rintro e w9 ⟨rfl,rfl⟩)
              | (go_simp;(with_reducible refine (HC2.o _ c1d.o).mono ?_);rintro e w9 ⟨rfl,rfl⟩))
          all_goals
            go_wp2_with fail
            go_roundw
            case rel=>exact ⟨k+1,by omega,by go_num,(HF.o wo hB0).1.below (Below.refl _ _).drew,(HF.o wo hB0).2.drew⟩
            case measure=>simp [intOf] <;> omega
        . obtain rfl:k=m.trns.length:=by omega
          rw [upTo_all] at HST
          have HB:=hid hzm
          obtain ⟨z0,z1,z2,z3,z4,z5,y0,y1,y2,y3,y4,y5⟩:=zero_box hzm
          clear hst hlt hzm
          go_wp2_with fail
          refine bodyPost_ret (v:=mdV m p) (by simp [results,Tryz.results53,go_sem,mdV,z0,z1,z2,z3,z4,z5]) rfl ?_
          have hAt:AtB (w.heap.size+1+1) wo ((((((wo.setCell ⟨w.heap.size+1+1,0,none⟩ (.string m.nm)).setCell ⟨w.heap.size+1+1,1,none⟩ (.slice p.a1 m.vars.length p.c1)).setCell ⟨w.heap.size+1+1,2,none⟩ (.slice p.a2 m.evs.length p.c2)).setCell ⟨w.heap.size+1+1,3,none⟩ (.slice p.a3 m.regs.length p.c3)).setCell ⟨w.heap.size+1+1,4,none⟩ (.slice p.a4 m.vers.length p.c4)).setCell ⟨w.heap.size+1+1,5,none⟩ (.slice p.a5 m.trns.length p.c5)) :=
            ((((((AtB.refl _ wo).set _ _).set _ _).set _ _).set _ _).set _ _).set _ _
          refine ⟨rfl,?_,(HG1.o.trans HST.o.2).far (hAt.below (by omega))⟩
          have hF:=HST.o.1.box hAt HB.o
          rw [fT_all HSan.o v] at hF
          exact hF
end Go.Proofs
