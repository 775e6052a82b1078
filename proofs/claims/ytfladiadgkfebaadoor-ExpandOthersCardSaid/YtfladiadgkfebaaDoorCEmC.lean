/- Walks: 'bound' of the program's expand. -/
import Derived.Test.YtfladiadgkfebaaDoorCEmA
namespace Go.Proofs
open Go.RowKit Go.Lx Go.Md Go.Maps
set_option linter.unusedVariables false
theorem u8_key:Keyed Tryd.prog 5:=int_keyed Tryd.underlying5
def klU (k:Int):Lit:=.int .u8 k
theorem klU_inj (s t:Int) (h:klU s=klU t):s=t:=by
 unfold klU at h;injection h
theorem MapG.seen {κ:Type} {K T E:TypeId} {kl:κ→Lit} {z:Value} {b cnt:Nat} {f:κ→Option Value} {w:World} (h:MapG K kl z b cnt f w) (hK:Keyed Tryd.prog K) (hT:Tryd.prog.underlying T=some (.map K E)) (hz:∀ w:World,(zeroValue E).run Tryd.prog w=.ok z w) {s:κ} {key:Value} (hs:keyOf Tryd.prog K key=some (kl s)) :
   (Instr.lookup T (.map (some b)) key false).run Tryd.prog w=.ok ((f s).getD z) w:=by
 obtain ⟨D,ho,hD⟩:=h
 obtain ⟨v,ps,hrun,hv⟩:=ho.lookup (t:=T) (e:=E) hK hT (hz w) (zd:=.held z) (zp:=[]) rfl hs
 rw [(hD s).2] at hv
 simp only [holdR,Option.some.injEq,Prod.mk.injEq,DataW.held.injEq] at hv
 rw [hrun,hv.1]
theorem zero_u8 (w:World):(zeroValue 5).run Tryd.prog w=.ok (.int .u8 0) w:=by kernel_rfl
def kdO (k:Int):Option Value:=if k=11 then some (.int .u8 2) else if k=10 then some (.int .u8 1) else none
abbrev KdMap (b:Nat) (w:World):Prop:=MapG 5 klU (.int .u8 0) b 2 kdO w
theorem KdMap.see {b:Nat} {w:World} (h:KdMap b w) {k:Nat} (hk:k=10∨k=11):(Instr.lookup 113 (.map (some b)) (.int .u8 k) false).run Tryd.prog w=.ok (.int .u8 (if k=11 then 2 else 1)) w:=by
 have:=MapG.seen (E:=5) h u8_key Tryd.underlying113 zero_u8 (s:=(k:Int)) (key:=.int .u8 k) (keyOf_int_mk Tryd.underlying5 (by rcases hk with rfl | rfl <;> decide))
 rw [this]
 rcases hk with rfl | rfl <;> rfl
theorem bndB_is (p x:VerD):bndB p x=(!p.nm.toList.isEmpty && (x.nm.toList == p.nm.toList) && ((x.kd:Int) == (if p.kd=11 then 2 else 1)) && x.rg == 0):=by
 unfold bndB eqS
 rw [show decide (0<p.nm.size)=!p.nm.toList.isEmpty by
   rw [toList_eq',Bool.eq_iff_iff,decide_eq_true_iff,Bool.not_eq_true',List.isEmpty_eq_false_iff,← List.length_pos_iff];simp]
 congr 2
 rw [Bool.eq_iff_iff,beq_iff_eq,beq_iff_eq]
 split <;> omega
set_option maxRecDepth 100000 in
set_option maxHeartbeats 1000000 in
theorem bound1_any (p y:VerD) (a:Option Addr) (c X M MB:Nat) (w:World) (h0:w.cell? ⟨X,0,none⟩=some (.string p.nm)) (h1:w.cell? ⟨X,1,none⟩=some (.int .u8 p.kd)) (hM:w.cell? ⟨M,0,none⟩=some (.map (some MB))) (hK:KdMap MB w) (hX:X<w.heap.size) (hM2:M<w.heap.size) (hk:p.kd=10∨p.kd=11) :
   Calls Tryd.prog 78 #[verA y a c,.pointer (some ⟨X,0,none⟩),.pointer (some ⟨M,0,none⟩)] w fun e w'=>e=.returned (.bool (bndB p y))∧Below w.heap.size w w':=by
 have HL:Hid ((Instr.lookup 113 (.map (some MB)) (.int .u8 p.kd) false).run Tryd.prog (w.alloc (.cells #[.string y.nm,.int .u8 y.kd,.int .i64 y.rg,.int .i64 y.ofv,.string y.en,.string y.ex,.slice a y.df.length c,.string y.sb] 39))=.ok (.int .u8 (if p.kd=11 then 2 else 1)) (w.alloc (.cells #[.string y.nm,.int .u8 y.kd,.int .i64 y.rg,.int .i64 y.ofv,.string y.en,.string y.ex,.slice a y.df.length c,.string y.sb] 39))) :=
   Lib.hid (KdMap.see (MapG.keep hK ((below_al1 w _).block _ hK.lt)) hk)
 unfold verA
 clear hK
 go_enter Tryd.func78,Tryd.ntmps78
 have hl:=HL.out
 have HP:=Lib.hid (bndB_is p y)
 clear HL
 go_wp2_with fail
 all_goals
   clear hl
   go_ret
   refine ⟨ret_bool ?_,(Below.refl _ _).alloc (Nat.le_refl _) _⟩
   rw [HP.out]
   simp_all
theorem cells2 (w:World) (A B:Array Value) (T0 T1:TypeId) (r:Nat):((w.alloc (.cells A T0)).alloc (.cells B T1)).cell? ⟨w.heap.size,r,none⟩=A[r]? ∧ ((w.alloc (.cells A T0)).alloc (.cells B T1)).cell? ⟨w.heap.size+1,r,none⟩=B[r]? := by
 have ca:∀ {w:World} {b:Nat} {A:Array Value} {T:TypeId},w.heap[b]? = some (.cells A T)→w.cell? ⟨b,r,none⟩=A[r]? := fun h=>by
   unfold World.cell?;simp only [h];rfl
 refine ⟨ca (T:=T0) ?_,ca (T:=T1) ?_⟩
 · rw [Below.heap_alloc _ _ _ (by simp),World.alloc_heap_new]
 · have:=World.alloc_heap_new (w.alloc (.cells A T0)) (.cells B T1)
   rw [World.size_alloc] at this;exact this
theorem kd_laid (W:World):∃ w3,(Instr.mapUpdate 113 (.map (some W.heap.size)) (.int .u8 10) (.int .u8 1)).run Tryd.prog (W.alloc (.map #[] 0))=.ok () w3∧∃ w4,(Instr.mapUpdate 113 (.map (some W.heap.size)) (.int .u8 11) (.int .u8 2)).run Tryd.prog w3=.ok () w4∧KdMap W.heap.size w4∧Below W.heap.size W w4:=by
 obtain ⟨w3,e3,h3,g3⟩:=MapG.put (s:=(10:Int)) (key:=.int .u8 10) (v:=.int .u8 1) (MapG.made (K:=5) (kl:=klU) (z:=.int .u8 0) (World.alloc_heap_new W (.map #[] 0))) u8_key Tryd.underlying113 (by omega) klU_inj (fun _=>trivial) (keyOf_int_mk Tryd.underlying5 (by decide))
 obtain ⟨w4,e4,h4,g4⟩:=MapG.put (s:=(11:Int)) (key:=.int .u8 11) (v:=.int .u8 2) h3 u8_key Tryd.underlying113 (by omega) klU_inj (fun _=>trivial) (keyOf_int_mk Tryd.underlying5 (by decide))
 have b3:Below W.heap.size W w3:=(below_al1 W _).grown g3 (by simp) fun k hk=>by injection hk with hk;omega
 exact ⟨w3,e3,w4,e4,h4,b3.grown g4 (by have:=b3.size;omega) fun k hk=>by injection hk with hk;omega⟩
theorem bnd_fidx (p:VerD) (m:MdlD):fidx (bndB p) m.vers=bndI p m:=by
 have h:∀ (l:List VerD) (i:Nat),bndF p i l=(l.findIdx? (bndB p)).map (· + i):=by
   intro l
   induction l with
   | nil=>intro i;rfl
   | cons x t ih =>
    intro i
    unfold bndF
    rw [List.findIdx?_cons]
    by_cases hx:bndB p x=true
    · rw [if_pos hx];simp [hx]
    · rw [if_neg hx,ih (i+1)]
      simp only [hx]
      cases t.findIdx? (bndB p) with
      | none=>rfl
      | some k=>simp;omega
 unfold fidx bndI bnd
 rw [h m.vers 0]
 cases m.vers.findIdx? (bndB p) with
 | none=>rfl
 | some k=>rfl
set_option maxRecDepth 100000 in
set_option maxHeartbeats 1000000 in
theorem idxfVer {Q R:BP} (a:Option Addr) (c:Nat) (l:List VerD) (p:VerD) (X M MB:Nat) (w:World) (h:Sl Q 8 (VerE R) w (.slice a l.length c) l) (hl:l.length≤140737488355328) (h0:w.cell? ⟨X,0,none⟩=some (.string p.nm)) (h1:w.cell? ⟨X,1,none⟩=some (.int .u8 p.kd)) (hM:w.cell? ⟨M,0,none⟩=some (.map (some MB))) (hK:KdMap MB w) (hX:X<w.heap.size) (hM2:M<w.heap.size) (hk:p.kd=10∨p.kd=11) :
   Calls Tryd.prog 77 #[.slice a l.length c,.func (.func 78) #[] #[.pointer (some ⟨X,0,none⟩),.pointer (some ⟨M,0,none⟩)]] w fun e w'=>e=.returned (.int .i64 (fidx (bndB p) l))∧Below w.heap.size w w':=by
 have H1:=Lib.hid h
 have HK:=Lib.hid hK
 clear h hK
 go_enter Tryd.func77,Tryd.ntmps77
 go_wp2_with fail
 go_loopw [8] (fun i wr=>∃ k:Nat,k≤l.length∧i=.int .i64 k∧Below w.heap.size w wr∧Hid (∀ j (hj:j<k) (hl:j<l.length),bndB p l[j]=false)) (fun i _=>l.length - (intOf i).toNat)
 case atStart=>exact ⟨0,by omega,rfl,Below.refl _ _,fun j hj=>by omega⟩
 case round =>
  obtain ⟨wo,rfl⟩:∃ wo:World,wo=wr:=⟨_,rfl⟩
  obtain ⟨k,hk2,rfl,hg,HE⟩:=hrel
  by_cases hlt:k<l.length
  · have hltI:(k:Int)<(l.length:Int):=by omega
    have hi0:(0:Int)≤(k:Int):=by omega
    obtain ⟨b1,o1,ha1,hb1,dv,hdv,r0,r1,r2,r3,r4,r5,r6,r7⟩:=H1.out.get hlt
    obtain ⟨da,dc,rfl⟩:=hdv.len
    obtain ⟨y,hy⟩:∃ y,y=l[k]:=⟨_,rfl⟩
    rw [← hy] at r0 r1 r2 r3 r4 r5 r6 r7
    have HX:=Lib.hid hy
    subst ha1
    clear hy hdv
    replace r0:=(hg.cell (p:=⟨b1,o1+k * 8,none⟩) hb1).trans r0
    replace r1:=(hg.cell (p:=⟨b1,o1+k * 8+1,none⟩) hb1).trans r1
    replace r2:=(hg.cell (p:=⟨b1,o1+k * 8+2,none⟩) hb1).trans r2
    replace r3:=(hg.cell (p:=⟨b1,o1+k * 8+3,none⟩) hb1).trans r3
    replace r4:=(hg.cell (p:=⟨b1,o1+k * 8+4,none⟩) hb1).trans r4
    replace r5:=(hg.cell (p:=⟨b1,o1+k * 8+5,none⟩) hb1).trans r5
    replace r6:=(hg.cell (p:=⟨b1,o1+k * 8+6,none⟩) hb1).trans r6
    replace r7:=(hg.cell (p:=⟨b1,o1+k * 8+7,none⟩) hb1).trans r7
    have HC:=Lib.hid (bound1_any p y da dc X M MB wo ((hg.cell (p:=⟨X,0,none⟩) hX).trans h0) ((hg.cell (p:=⟨X,1,none⟩) hX).trans h1) ((hg.cell (p:=⟨M,0,none⟩) hM2).trans hM) (HK.out.keep (hg.block _ HK.out.lt)) (Nat.lt_of_lt_of_le hX hg.size) (Nat.lt_of_lt_of_le hM2 hg.size) hk)
    unfold verA at HC
    cases hxy:bndB p y with
    | true =>
     rw [hxy] at HC
     have HF:Hid (fidx (bndB p) l=k):=fidx_some hlt (by rw [← HX.out];exact hxy) fun j hj=>HE.out j hj (by omega)
     clear hxy
     go_wp2_with fail
     refine HC.out.mono ?_
     rintro e w' ⟨rfl,g1⟩
     go_wp2_with fail
     go_ret
     exact ⟨ret_int (by rw [HF.out]),hg.trans (g1.mono hg.size)⟩
    | false =>
     rw [hxy] at HC
     have HF:Hid (∀ j (hj:j<k+1) (hl:j<l.length),bndB p l[j]=false):=fun j hj hl=>by
       by_cases e:j=k
       · subst e;rw [← HX.out];exact hxy
       · exact HE.out j (by omega) hl
     clear hxy
     go_wp2_with fail
     refine HC.out.mono ?_
     rintro e w' ⟨rfl,g1⟩
     go_wp2_with fail
     go_roundw
     case rel=>exact ⟨k+1,by omega,by go_num,hg.trans (g1.mono hg.size),HF⟩
     case measure=>simp [intOf] <;> omega
  · have HF:Hid (fidx (bndB p) l=-1):=fidx_none fun j hj=>HE.out j (by omega) hj
    go_wp2_with fail
    go_ret
    exact ⟨ret_int (by rw [HF.out]),hg⟩
set_option maxRecDepth 100000 in
set_option maxHeartbeats 1000000 in
theorem bound_any {Q:Nat→BP} (p:VerD) (a:Option Addr) (c:Nat) (m:MdlD) (ph:Ph) (w:World) (h:Mod Q w m ph) (hk:p.kd=10∨p.kd=11) (hv:m.vers.length≤10000) :
   Calls Tryd.prog 43 #[verA p a c,mdV m ph] w fun e w'=>e=.returned (.int .i64 (bndI p m))∧Below w.heap.size w w':=by
 have HM:=Lib.hid (fun (wx:World) (hb:Below w.heap.size w wx)=>(h.below hb).vers)
 have HI:=Lib.hid (bnd_fidx p m)
 unfold verA mdV
 clear h
 go_enter Tryd.func43,Tryd.ntmps43
 go_upto_region 1 with fail
 generalize hW:(w.alloc (.cells #[.string p.nm,.int .u8 p.kd,.int .i64 p.rg,.int .i64 p.ofv,.string p.en,.string p.ex,.slice a p.df.length c,.string p.sb] 39)).alloc (.cells #[.string m.nm,.slice ph.a1 m.vars.length ph.c1,.slice ph.a2 m.evs.length ph.c2,.slice ph.a3 m.regs.length ph.c3,.slice ph.a4 m.vers.length ph.c4,.slice ph.a5 m.trns.length ph.c5] 31)=W2
 have hC:=fun r=>by have:=cells2 w #[.string p.nm,.int .u8 p.kd,.int .i64 p.rg,.int .i64 p.ofv,.string p.en,.string p.ex,.slice a p.df.length c,.string p.sb] #[.string m.nm,.slice ph.a1 m.vars.length ph.c1,.slice ph.a2 m.evs.length ph.c2,.slice ph.a3 m.regs.length ph.c3,.slice ph.a4 m.vers.length ph.c4,.slice ph.a5 m.trns.length ph.c5] 39 31 r;rw [hW] at this;exact this
 have HB2:Hid (Below w.heap.size w W2):=Lib.hid (by rw [← hW];exact below_al2 w _ _)
 have hz2:W2.heap.size=w.heap.size+1+1:=by rw [← hW];simp
 have HC0:Hid (W2.cell? ⟨w.heap.size,0,none⟩=some (.string p.nm)):=Lib.hid (hC 0).1
 have HC1:Hid (W2.cell? ⟨w.heap.size,1,none⟩=some (.int .u8 p.kd)):=Lib.hid (hC 1).1
 have HC4:Hid (W2.cell? ⟨w.heap.size+1,4,none⟩=some (.slice ph.a4 m.vers.length ph.c4)):=Lib.hid (hC 4).2
 clear hC hW
 have HL:=Lib.hid (kd_laid W2)
 obtain ⟨w3,e3,w4,e4,hm4,hb4⟩:=HL.out
 rw [hz2] at e3 e4 hm4 hb4
 have HK4:=Lib.hid hm4
 have HG4:=Lib.hid hb4
 clear HL hm4 hb4
 have hmm:=@run_makeMap Tryd.prog
 go_upto_region 2 with fail
 have hz4:w.heap.size+1+1≤w4.heap.size:=by have:=HG4.out.size;omega
 generalize hW5:w4.alloc (.cells #[.map (some (w.heap.size+1+1))] 113)=W5
 have hb5:Below w4.heap.size w4 W5:=by rw [← hW5];exact below_al1 w4 _
 have hm5:W5.cell? ⟨w4.heap.size,0,none⟩=some (.map (some (w.heap.size+1+1))):=by
   rw [← hW5];unfold World.cell?;simp only [World.alloc_heap_new];rfl
 have hz5:w4.heap.size<W5.heap.size:=by rw [← hW5];simp
 clear hW5
 have g25:Below (w.heap.size+1+1) W2 W5:=HG4.out.trans (hb5.mono (by omega))
 have gw:Below w.heap.size w W5:=HB2.out.trans (g25.mono (by omega))
 have c0:=(g25.cell (p:=⟨w.heap.size,0,none⟩) (by show w.heap.size<_;omega)).trans HC0.out
 have c1:=(g25.cell (p:=⟨w.heap.size,1,none⟩) (by show w.heap.size<_;omega)).trans HC1.out
 have c4:=(g25.cell (p:=⟨w.heap.size+1,4,none⟩) (by show w.heap.size+1<_;omega)).trans HC4.out
 have HC:=Lib.hid (idxfVer ph.a4 ph.c4 m.vers p w.heap.size w4.heap.size (w.heap.size+1+1) W5 (HM.out W5 gw) (by omega) c0 c1 hm5 (MapG.keep HK4.out (hb5.block _ HK4.out.lt)) (by omega) hz5 hk)
 have HGw:=Lib.hid gw
 rw [HI.out] at HC
 clear gw g25 hb5 HG4 HB2 HC0 HC1 HC4 hmm e3 e4 c0 c1
 go_wp2_with fail
 refine HC.out.mono ?_
 rintro e w6 ⟨rfl,g6⟩
 go_wp2_with fail
 go_ret
 exact ⟨rfl,HGw.out.trans (g6.mono HGw.out.size)⟩
end Go.Proofs
