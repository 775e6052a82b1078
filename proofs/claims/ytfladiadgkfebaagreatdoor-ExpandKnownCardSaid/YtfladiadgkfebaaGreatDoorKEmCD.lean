/- Walks: 'bound' of the program's expand. -/
import Derived.Test.YtfladiadgkfebaaGreatDoorKEmA
namespace Go.Proofs
open Go.RowKit Go.Lx Go.Md Go.Maps
open Lib(hid)
set_option maxRecDepth 100000
set_option maxHeartbeats 0
set_option linter.unusedVariables false
theorem u8_key:Keyed Tryz.prog 5:=int_keyed Tryz.underlying5
def klU (k:Int):Lit:=.int .u8 k
theorem klU_inj (s t:Int) (h:klU s=klU t):s=t:=by
 unfold klU at h;injection h
theorem MapG.seen {κ:Type} {K T E:TypeId} {kl:κ->Lit} {z:Value} {b cnt:Nat} {f:κ->Option Value} {w:World} (h:MapG K kl z b cnt f w) (hK:Keyed Tryz.prog K) (hT:Tryz.prog.underlying T=some (.map K E)) (hz:∀ w:World,(zeroValue E).run Tryz.prog w=.ok z w) {s:κ} {key:Value} (hs:keyOf Tryz.prog K key=some (kl s)) :
   (Instr.lookup T (.map (some b)) key false).run Tryz.prog w=.ok ((f s).getD z) w:=by
 obtain ⟨D,ho,hD⟩:=h
 obtain ⟨v,ps,hrun,hv⟩:=ho.lookup (t:=T) (e:=E) hK hT (hz w) (zd:=.held z) (zp:=[]) rfl hs
 rw [(hD s).2] at hv
 simp only [holdR,Option.some.injEq,Prod.mk.injEq,DataW.held.injEq] at hv
 rw [hrun,hv.1]
theorem zero_u8 (w:World):(zeroValue 5).run Tryz.prog w=.ok (.int .u8 0) w:=by kernel_rfl
def kdO (k:Int):Option Value:=if k=11 then some (.int .u8 2) else if k=10 then some (.int .u8 1) else none
abbrev KdMap (b:Nat) (w:World):Prop:=MapG 5 klU (.int .u8 0) b 2 kdO w
theorem KdMap.see {b:Nat} {w:World} (h:KdMap b w) {k:Nat} (hk:k=10\/k=11):(Instr.lookup 136 (.map (some b)) (.int .u8 k) false).run Tryz.prog w=.ok (.int .u8 (if k=11 then 2 else 1)) w:=by
 have:=MapG.seen (E:=5) h u8_key Tryz.underlying136 zero_u8 (s:=(k:Int)) (key:=.int .u8 k) (keyOf_int_mk Tryz.underlying5 (by rcases hk with rfl | rfl <;> decide))
 rw [this]
 rcases hk with rfl | rfl <;> rfl
theorem bndB_is (p x:VerD):bndB p x=(!p.nm.toList.isEmpty && (x.nm.toList == p.nm.toList) && ((x.kd:Int) == (if p.kd=11 then 2 else 1)) && x.rg == 0):=by
 unfold bndB eqS
 rw [show decide (0<p.nm.size)=!p.nm.toList.isEmpty by
   rw [toList_eq',Bool.eq_iff_iff,decide_eq_true_iff,Bool.not_eq_true',List.isEmpty_eq_false_iff,<- List.length_pos_iff];simp]
 congr 2
 rw [Bool.eq_iff_iff,beq_iff_eq,beq_iff_eq]
 split <;> omega
theorem bound1_any (p y:VerD) (a:Option Addr) (c X M MB:Nat) (w:World) (h0:w.cell? ⟨X,0,none⟩=some (.string p.nm)) (h1:w.cell? ⟨X,1,none⟩=some (.int .u8 p.kd)) (hM:w.cell? ⟨M,0,none⟩=some (.map (some MB))) (hK:KdMap MB w) (hX:X<w.heap.size) (hM2:M<w.heap.size) (hk:p.kd=10\/p.kd=11) :
   Calls Tryz.prog 93 #[verA y a c,.pointer (some ⟨X,0,none⟩),.pointer (some ⟨M,0,none⟩)] w fun e w'=>e=.returned (.bool (bndB p y))/\Below w.heap.size w w':=by
 have HL:Hid ((Instr.lookup 136 (.map (some MB)) (.int .u8 p.kd) false).run Tryz.prog (w.alloc (.cells #[.string y.nm,.int .u8 y.kd,.int .i64 y.rg,.int .i64 y.ofv,.string y.en,.string y.ex,.slice a y.df.length c,.string y.sb] 49))=.ok (.int .u8 (if p.kd=11 then 2 else 1)) (w.alloc (.cells #[.string y.nm,.int .u8 y.kd,.int .i64 y.rg,.int .i64 y.ofv,.string y.en,.string y.ex,.slice a y.df.length c,.string y.sb] 49))) :=
   hid (KdMap.see (MapG.keep hK ((below_al1 w _).block _ hK.lt)) hk)
 unfold verA
 clear hK
 go_enter Tryz.func93,Tryz.ntmps93
 have hl:=HL.o
 have HP:=hid (bndB_is p y)
 clear HL
 go_wp2_with fail
 all_goals
   clear hl
   go_ret
   refine ⟨ret_bool ?_,(Below.refl _ _).alloc (Nat.le_refl _) _⟩
   rw [HP.o]
   simp_all
theorem cells2 (w:World) (A B:Array Value) (T0 T1:TypeId) (r:Nat):((w.alloc (.cells A T0)).alloc (.cells B T1)).cell? ⟨w.heap.size,r,none⟩=A[r]? /\ ((w.alloc (.cells A T0)).alloc (.cells B T1)).cell? ⟨w.heap.size+1,r,none⟩=B[r]? := by
 have ca:∀ {w:World} {b:Nat} {A:Array Value} {T:TypeId},w.heap[b]? = some (.cells A T)->w.cell? ⟨b,r,none⟩=A[r]? := fun h=>by
   unfold World.cell?;simp only [h];rfl
 refine ⟨ca (T:=T0) ?_,ca (T:=T1) ?_⟩
 . rw [Below.heap_alloc _ _ _ (by simp),World.alloc_heap_new]
 . have:=World.alloc_heap_new (w.alloc (.cells A T0)) (.cells B T1)
   rw [World.size_alloc] at this;exact this
theorem kd_laid (W:World):∃ w3,(Instr.mapUpdate 136 (.map (some W.heap.size)) (.int .u8 10) (.int .u8 1)).run Tryz.prog (W.alloc (.map #[] 0))=.ok () w3/\∃ w4,(Instr.mapUpdate 136 (.map (some W.heap.size)) (.int .u8 11) (.int .u8 2)).run Tryz.prog w3=.ok () w4/\KdMap W.heap.size w4/\Below W.heap.size W w4:=by
 obtain ⟨w3,e3,h3,g3⟩:=MapG.put (s:=(10:Int)) (key:=.int .u8 10) (v:=.int .u8 1) (MapG.made (K:=5) (kl:=klU) (z:=.int .u8 0) (World.alloc_heap_new W (.map #[] 0))) u8_key Tryz.underlying136 (by omega) klU_inj (fun _=>trivial) (keyOf_int_mk Tryz.underlying5 (by decide))
 obtain ⟨w4,e4,h4,g4⟩:=MapG.put (s:=(11:Int)) (key:=.int .u8 11) (v:=.int .u8 2) h3 u8_key Tryz.underlying136 (by omega) klU_inj (fun _=>trivial) (keyOf_int_mk Tryz.underlying5 (by decide))
 have b3:Below W.heap.size W w3:=(below_al1 W _).grown g3 (by simp) fun k hk=>by injection hk with hk;omega
 exact ⟨w3,e3,w4,e4,h4,b3.grown g4 (by have:=b3.size;omega) fun k hk=>by injection hk with hk;omega⟩
theorem bnd_fidx (p:VerD) (m:MdlD):fidx (bndB p) m.vers=bndI p m:=by
 have h:∀ (l:List VerD) (i:Nat),bndF p i l=(l.findIdx? (bndB p)).map (· + i):=by
   intro l
   induction l with
   | nil=>intro i;rfl
   | cons x t ih =>
    intro i
    unfold bndF
    rw [List.findIdx?_cons]
    by_cases hx:bndB p x=true
    . rw [if_pos hx];simp [hx]
    . rw [if_neg hx,ih (i+1)]
      simp only [hx]
      cases t.findIdx? (bndB p) with
      | none=>rfl
      | some k=>simp;omega
 unfold fidx bndI bnd
 rw [h m.vers 0]
 cases m.vers.findIdx? (bndB p) with
 | none=>rfl
 | some k=>rfl
theorem idxfVer {Q R:BP} (a:Option Addr) (c:Nat) (l:List VerD) (p:VerD) (X M MB:Nat) (w:World) (h:Sl Q 8 (VerE R) w (.slice a l.length c) l) (hl:l.length<=140737488355328) (h0:w.cell? ⟨X,0,none⟩=some (.string p.nm)) (h1:w.cell? ⟨X,1,none⟩=some (.int .u8 p.kd)) (hM:w.cell? ⟨M,0,none⟩=some (.map (some MB))) (hK:KdMap MB w) (hX:X<w.heap.size) (hM2:M<w.heap.size) (hk:p.kd=10\/p.kd=11) :
   Calls Tryz.prog 92 #[.slice a l.length c,.func (.func 93) #[] #[.pointer (some ⟨X,0,none⟩),.pointer (some ⟨M,0,none⟩)]] w fun e w'=>e=.returned (.int .i64 (fidx (bndB p) l))/\Below w.heap.size w w':=by
 have H1:=hid h
 have HK:=hid hK
 clear h hK
 go_enter Tryz.func92,Tryz.ntmps92
 go_wp2_with fail
 go_loopw [8] (fun i wr=>∃ k:Nat,k<=l.length/\i=.int .i64 k/\Below w.heap.size w wr/\Hid (∀ j (hj:j<k) (hl:j<l.length),bndB p l[j]=false)) (fun i _=>l.length - (intOf i).toNat)
 case atStart=>exact ⟨0,by omega,rfl,Below.refl _ _,fun j hj=>by omega⟩
 case round =>
  obtain ⟨wo,rfl⟩:=ex1 wr
  obtain ⟨k,hk2,rfl,hg,HE⟩:=hrel
  by_cases hlt:k<l.length
  . have hltI:(k:Int)<(l.length:Int):=by omega
    have hi0:(0:Int)<=(k:Int):=by omega
    obtain ⟨b1,o1,ha1,hb1,dv,hdv,r0,r1,r2,r3,r4,r5,r6,r7⟩:=H1.o.get hlt
    obtain ⟨da,dc,rfl⟩:=hdv.len
    obtain ⟨y,hy⟩:∃ y,y=l[k]:=⟨_,rfl⟩
    rw [<- hy] at r0 r1 r2 r3 r4 r5 r6 r7
    have HX:=hid hy
    subst ha1
    clear hy hdv
    replace r0:=(hg.cell (p:=⟨b1,o1+k * 8,none⟩) hb1).trans r0
    replace r1:=(hg.cell (p:=⟨b1,o1+k * 8+1,none⟩) hb1).trans r1
    replace r2:=(hg.cell (p:=⟨b1,o1+k * 8+2,none⟩) hb1).trans r2
    replace r3:=(hg.cell (p:=⟨b1,o1+k * 8+3,none⟩) hb1).trans r3
    replace r4:=(hg.cell (p:=⟨b1,o1+k * 8+4,none⟩) hb1).trans r4
    replace r5:=(hg.cell (p:=⟨b1,o1+k * 8+5,none⟩) hb1).trans r5
    replace r6:=(hg.cell (p:=⟨b1,o1+k * 8+6,none⟩) hb1).trans r6
    replace r7:=(hg.cell (p:=⟨b1,o1+k * 8+7,none⟩) hb1).trans r7
    have HC:=hid (bound1_any p y da dc X M MB wo ((hg.cell (p:=⟨X,0,none⟩) hX).trans h0) ((hg.cell (p:=⟨X,1,none⟩) hX).trans h1) ((hg.cell (p:=⟨M,0,none⟩) hM2).trans hM) (HK.o.keep (hg.block _ HK.o.lt)) (Nat.lt_of_lt_of_le hX hg.size) (Nat.lt_of_lt_of_le hM2 hg.size) hk)
    unfold verA at HC
    cases hxy:bndB p y with
    | true =>
     rw [hxy] at HC
     have HF:Hid (fidx (bndB p) l=k):=fidx_some hlt (by rw [<- HX.o];exact hxy) fun j hj=>HE.o j hj (by omega)
     clear hxy
     go_wp2_with fail
     refine HC.o.mono ?_
     rintro e w' ⟨rfl,g1⟩
     go_wp2_with fail
     go_ret
     exact ⟨ret_int (by rw [HF.o]),hg.trans (g1.mono hg.size)⟩
    | false =>
     rw [hxy] at HC
     have HF:Hid (∀ j (hj:j<k+1) (hl:j<l.length),bndB p l[j]=false):=fun j hj hl=>by
       by_cases e:j=k
       . subst e;rw [<- HX.o];exact hxy
       . exact HE.o j (by omega) hl
     clear hxy
     go_wp2_with fail
     refine HC.o.mono ?_
     rintro e w' ⟨rfl,g1⟩
     go_wp2_with fail
     go_roundw
     case rel=>exact ⟨k+1,by omega,by go_num,hg.trans (g1.mono hg.size),HF⟩
     case measure=>simp [intOf] <;> omega
  . have HF:Hid (fidx (bndB p) l=-1):=fidx_none fun j hj=>HE.o j (by omega) hj
    go_wp2_with fail
    go_ret
    exact ⟨ret_int (by rw [HF.o]),hg⟩
theorem bound_any {Q:Nat->BP} (p:VerD) (a:Option Addr) (c:Nat) (m:MdlD) (ph:Ph) (w:World) (h:Mod Q w m ph) (hk:p.kd=10\/p.kd=11) (hv:m.vers.length<=10000) :
   Calls Tryz.prog 55 #[verA p a c,mdV m ph] w fun e w'=>e=.returned (.int .i64 (bndI p m))/\Below w.heap.size w w':=by
 have HM:=hid (fun (wx:World) (hb:Below w.heap.size w wx)=>(h.below hb).vers)
 have HI:=hid (bnd_fidx p m)
 unfold verA mdV
 clear h
 go_enter Tryz.func55,Tryz.ntmps55
 go_upto_region 1 with fail
 generalize hW:(w.alloc (.cells #[.string p.nm,.int .u8 p.kd,.int .i64 p.rg,.int .i64 p.ofv,.string p.en,.string p.ex,.slice a p.df.length c,.string p.sb] 49)).alloc (.cells #[.string m.nm,.slice ph.a1 m.vars.length ph.c1,.slice ph.a2 m.evs.length ph.c2,.slice ph.a3 m.regs.length ph.c3,.slice ph.a4 m.vers.length ph.c4,.slice ph.a5 m.trns.length ph.c5] 42)=W2
 have hC:=fun r=>by have:=cells2 w #[.string p.nm,.int .u8 p.kd,.int .i64 p.rg,.int .i64 p.ofv,.string p.en,.string p.ex,.slice a p.df.length c,.string p.sb] #[.string m.nm,.slice ph.a1 m.vars.length ph.c1,.slice ph.a2 m.evs.length ph.c2,.slice ph.a3 m.regs.length ph.c3,.slice ph.a4 m.vers.length ph.c4,.slice ph.a5 m.trns.length ph.c5] 49 42 r;rw [hW] at this;exact this
 have HB2:Hid (Below w.heap.size w W2):=hid (by rw [<- hW];exact below_al2 w _ _)
 have hz2:W2.heap.size=w.heap.size+1+1:=by rw [<- hW];simp
 have HC0:Hid (W2.cell? ⟨w.heap.size,0,none⟩=some (.string p.nm)):=hid (hC 0).1
 have HC1:Hid (W2.cell? ⟨w.heap.size,1,none⟩=some (.int .u8 p.kd)):=hid (hC 1).1
 have HC4:Hid (W2.cell? ⟨w.heap.size+1,4,none⟩=some (.slice ph.a4 m.vers.length ph.c4)):=hid (hC 4).2
 clear hC hW
 have HL:=hid (kd_laid W2)
 obtain ⟨w3,e3,w4,e4,hm4,hb4⟩:=HL.o
 rw [hz2] at e3 e4 hm4 hb4
 have HK4:=hid hm4
 have HG4:=hid hb4
 clear HL hm4 hb4
 have hmm:=@run_makeMap Tryz.prog
 go_upto_region 2 with fail
 have hz4:w.heap.size+1+1<=w4.heap.size:=by have:=HG4.o.size;omega
 generalize hW5:w4.alloc (.cells #[.map (some (w.heap.size+1+1))] 136)=W5
 have hb5:Below w4.heap.size w4 W5:=by rw [<- hW5];exact below_al1 w4 _
 have hm5:W5.cell? ⟨w4.heap.size,0,none⟩=some (.map (some (w.heap.size+1+1))):=by
   rw [<- hW5];unfold World.cell?;simp only [World.alloc_heap_new];rfl
 have hz5:w4.heap.size<W5.heap.size:=by rw [<- hW5];simp
 clear hW5
 have g25:Below (w.heap.size+1+1) W2 W5:=HG4.o.trans (hb5.mono (by omega))
 have gw:Below w.heap.size w W5:=HB2.o.trans (g25.mono (by omega))
 have c0:=(g25.cell (p:=⟨w.heap.size,0,none⟩) (by show w.heap.size<_;omega)).trans HC0.o
 have c1:=(g25.cell (p:=⟨w.heap.size,1,none⟩) (by show w.heap.size<_;omega)).trans HC1.o
 have c4:=(g25.cell (p:=⟨w.heap.size+1,4,none⟩) (by show w.heap.size+1<_;omega)).trans HC4.o
 have HC:=hid (idxfVer ph.a4 ph.c4 m.vers p w.heap.size w4.heap.size (w.heap.size+1+1) W5 (HM.o W5 gw) (by omega) c0 c1 hm5 (MapG.keep HK4.o (hb5.block _ HK4.o.lt)) (by omega) hz5 hk)
 have HGw:=hid gw
 rw [HI.o] at HC
 clear gw g25 hb5 HG4 HB2 HC0 HC1 HC4 hmm e3 e4 c0 c1
 go_wp2_with fail
 refine HC.o.mono ?_
 rintro e w6 ⟨rfl,g6⟩
 go_wp2_with fail
 go_ret
 exact ⟨rfl,HGw.o.trans (g6.mono HGw.o.size)⟩
end Go.Proofs

namespace Go.Proofs
open Go.RowKit Go.Lx Go.Md Go.Maps Go.BigFrame
open Lib(hid)
set_option maxRecDepth 100000
set_option maxHeartbeats 0
set_option linter.unusedVariables false
def nmF (l:List MdlD) (s:ByteArray):Option Value:=(fnd l s).map fun k=>.int .i64 k
structure LibA (N:Nat) (l:List MdlD) (a:Option Addr) (c LB NB SB cnt:Nat) (w:World):Prop where
 c0:w.cell? ⟨LB,0,none⟩=some (.slice a l.length c)
 c1:w.cell? ⟨LB,1,none⟩=some (.map (some NB))
 c2:w.cell? ⟨LB,2,none⟩=some (.map (some SB))
 lib:LibV N w (.slice a l.length c) l
 nam:NamAt NB cnt (nmF l) w
 lb:LB<w.heap.size
 nb:NB<w.heap.size
 nl:N<=w.heap.size
theorem LibA.below {N:Nat} {l:List MdlD} {a:Option Addr} {c LB NB SB cnt:Nat} {w w':World} (h:LibA N l a c LB NB SB cnt w) (g:Below w.heap.size w w'):LibA N l a c LB NB SB cnt w' :=
 ⟨(g.cell (p:=⟨LB,0,none⟩) h.lb).trans h.c0,(g.cell (p:=⟨LB,1,none⟩) h.lb).trans h.c1,(g.cell (p:=⟨LB,2,none⟩) h.lb).trans h.c2,h.lib.below (g.mono h.nl),h.nam.keep (g.block _ h.nb),Nat.lt_of_lt_of_le h.lb g.size,Nat.lt_of_lt_of_le h.nb g.size,Nat.le_trans h.nl g.size⟩
theorem zero_i64 (w:World):(zeroValue 3).run Tryz.prog w=.ok (.int .i64 0) w:=by kernel_rfl
theorem nam_look {l:List MdlD} {NB cnt:Nat} {w:World} (h:NamAt NB cnt (nmF l) w) {s:ByteArray} (hs:s.size<=140737488355328):(Instr.lookup 73 (.map (some NB)) (.string s) true).run Tryz.prog w=.ok (.tuple #[.int .i64 ((fnd l s).getD 0:Nat),.bool (fnd l s).isSome]) w:=by
 have:=MapG.look (E:=3) h str_key Tryz.underlying73 zero_i64 (s:=s) (key:=.string s) (WideMaps.keyOf_string_mk Tryz.underlying9 (by unfold maxLen;omega))
 rw [this]
 unfold nmF
 cases fnd l s <;> rfl
theorem LibA.look {N:Nat} {l:List MdlD} {a:Option Addr} {c LB NB SB cnt:Nat} {w:World} (h:LibA N l a c LB NB SB cnt w) {s:ByteArray} (hs:s.size<=140737488355328) (n:Nat):(Instr.lookup 73 (.map (some NB)) (.string s) true).run Tryz.prog (w.drewN n)=.ok (.tuple #[.int .i64 ((fnd l s).getD 0:Nat),.bool (fnd l s).isSome]) (w.drewN n) :=
 nam_look (h.nam.keep (by rw [World.heap_drewN])) hs
theorem fndI_some {l:List MdlD} {s:ByteArray} {k:Nat} (h:fnd l s=some k):fndI l s=k:=by unfold fndI;rw [h]
theorem fndI_none {l:List MdlD} {s:ByteArray} (h:fnd l s=none):fndI l s=-1:=by unfold fndI;rw [h]
theorem usesTi_any (N:Nat) (l:List MdlD) (a:Option Addr) (c LB NB SB cnt:Nat) (m:MdlD) (n:Nat) (B0 B1:Nat) (w:World) (J:Nat->World->Prop) (R:World->Prop) (hn:n<l.length) (hm:l[n]=m) (hl:l.length<=100000) (hv:m.vers.length<=10000) (hs:∀ x ∈ m.vers,x.sb.size<=140737488355328)
   (hJ:∀ k wr,J k wr->LibA N l a c LB NB SB cnt wr/\Below N w wr) (hst:∀ k wr wx,J k wr->Below wr.heap.size wr wx->J k wx)
   (hsk:∀ k wr (h:k<m.vers.length),J k wr->m.vers[k].sb.size=0->J (k+1) wr)
   (hcl:∀ k wr (h:k<m.vers.length),J k wr->0<m.vers[k].sb.size->Calls Tryz.prog 81 #[.int .i64 k,.int .i64 (fndI l (m.vers[k]).sb),.pointer (some (.mk B0 0 none)),.pointer (some (.mk B1 0 none))] wr fun e w'=>∃ b,e=.returned (.bool b)/\(b=true->J (k+1) w')/\(b=false->R w'))
   (h0:J 0 w):Calls Tryz.prog 51 #[.pointer (some ⟨LB,0,none⟩),.int .i64 n,.func (.func 81) #[] #[.pointer (some (.mk B0 0 none)),.pointer (some (.mk B1 0 none))]] w fun e w'=>∃ b,e=.returned (.bool b)/\(b=true->J m.vers.length w')/\(b=false->R w'):=by
 have HJ:=hid hJ
 have HST:=hid hst
 have HSK:=hid hsk
 have HCL:=hid hcl
 have HS:=hid hs
 have H0:=hid h0
 obtain ⟨hA,_⟩:=hJ 0 w h0
 have c0:=hA.c0
 have hla:=hA.lb
 obtain ⟨b1,o1,e1,hb1,ph,hmo,r0,r1,r2,r3,r4,r5⟩:=hA.lib.get hn
 rw [hm] at hmo r0 r1 r2 r3 r4 r5
 subst e1
 have HM:=hid hmo
 have hnI:(n:Int)<(l.length:Int):=by omega
 have hn0:(0:Int)<=(n:Int):=by omega
 clear hJ hst hsk hcl hs h0 hA hmo
 go_enter Tryz.func51,Tryz.ntmps51
 go_wp2_with fail
 clear r0 r1 r2 r3 r4 r5 c0
 go_loopw [20] (fun i wr=>∃ k:Nat,k<=m.vers.length/\i=.int .i64 k/\J k wr) (fun i _=>m.vers.length - (intOf i).toNat)
 case atStart=>exact ⟨0,by omega,rfl,H0.o⟩
 case round =>
  obtain ⟨wo,rfl⟩:=ex1 wr
  obtain ⟨k,hk,rfl,hj⟩:=hrel
  have HJk:=hid hj
  obtain ⟨hA,hbN⟩:=HJ.o k wo hj
  have HAk:=hid hA
  clear hj
  by_cases hlt:k<m.vers.length
  . have hI:(k:Int)<(m.vers.length:Int):=by omega
    have hI0:(0:Int)<=(k:Int):=by omega
    have hvs:=(HM.o.kept (fun _=>(⟨hbN.size,fun b _ hb=>hbN.block b hb⟩:Kept (OldB N) w wo))).vers
    have hcap:=hvs.cap (by omega)
    obtain ⟨b2,o2,ea,hb2,dv,hdv,r0,r1,r2,r3,r4,r5,r6,r7⟩:=hvs.get hlt
    obtain ⟨da,dc,rfl⟩:=hdv.len
    have HSb:=hid (HS.o _ (List.getElem_mem hlt))
    obtain ⟨y,hy⟩:=ex2 (m.vers[k])
    have HSK1:=hid (HSK.o k wo hlt HJk.o)
    have HCL1:=hid fun wr hj=>HCL.o k wr hlt hj
    rw [hy] at r0 r1 r2 r3 r4 r5 r6 r7 HSb HSK1 HCL1
    clear hdv hvs hA hbN
    rw [ea]
    have hz:y.sb.toList.isEmpty=true↔y.sb.size=0:=by rw [toList_eq',List.isEmpty_iff,<- List.length_eq_zero_iff];simp
    have HZ:=hid hz
    clear hz
    cases hse:y.sb.toList.isEmpty with
    | true =>
     have HN1:=hid (HSK1.o (HZ.o.1 hse))
     clear HCL1 HAk HSK1
     go_wp2_with fail
     go_roundw
     case rel=>exact ⟨k+1,by omega,by go_num,HST.o _ _ _ HN1.o (below_al1 wo _)⟩
     case measure=>simp [intOf] <;> omega
    | false =>
     have hpos:0<y.sb.size:=by
       rcases Nat.eq_zero_or_pos y.sb.size with h | h
       . rw [HZ.o.2 h] at hse;cases hse
       . exact h
     go_upto_region 5 with fail
     have HJ1:Hid (J k (wo.alloc (.cells #[.string y.nm,.int .u8 y.kd,.int .i64 y.rg,.int .i64 y.ofv,.string y.en,.string y.ex,.slice da y.df.length dc,.string y.sb] 49))):=hid (HST.o _ _ _ HJk.o (below_al1 wo _))
     have hc7:(wo.alloc (.cells #[.string y.nm,.int .u8 y.kd,.int .i64 y.rg,.int .i64 y.ofv,.string y.en,.string y.ex,.slice da y.df.length dc,.string y.sb] 49)).cell? ⟨wo.heap.size,7,none⟩=some (.string y.sb):=by
       unfold World.cell?;simp only [World.alloc_heap_new];rfl
     generalize wo.alloc (.cells #[.string y.nm,.int .u8 y.kd,.int .i64 y.rg,.int .i64 y.ofv,.string y.en,.string y.ex,.slice da y.df.length dc,.string y.sb] 49)=W1 at *
     have hA1:=(HJ.o k W1 HJ1.o).1
     have c1:=hA1.c1
     have hlk:=hA1.look HSb.o
     have HB:=hid fun nq=>HCL1.o (W1.drewN nq) (HST.o _ _ _ HJ1.o (below_drewN (Below.refl _ _) nq)) hpos
     clear hA1 HCL1 HSK1 HAk r0 r1 r2 r3 r4 r5 r6 r7
     cases hf:fnd l y.sb with
     | none =>
      rw [hf] at hlk
      simp only [Option.getD_none,Option.isSome_none] at hlk
      go_quiet (fail)
      have HC:=hid (HB.o nq)
      rw [fndI_none hf] at HC
      generalize W1.drewN nq=W2 at *
      clear HB hlk hc7 c1
      go_wp2_with fail
      refine HC.o.mono ?_
      rintro e w5 ⟨b,rfl,ht,hf2⟩
      cases b with
      | true =>
       go_wp2_with fail
       go_roundw
       case rel=>exact ⟨k+1,by omega,by go_num,ht trivial⟩
       case measure=>simp [intOf] <;> omega
      | false =>
       go_wp2_with fail
       go_ret
       exact ⟨false,rfl,by simp,fun _=>hf2 trivial⟩
     | some q =>
      rw [hf] at hlk
      simp only [Option.getD_some,Option.isSome_some] at hlk
      go_quiet (fail)
      have HC:=hid (HB.o nq)
      rw [fndI_some hf] at HC
      generalize W1.drewN nq=W2 at *
      clear HB hlk hc7 c1
      go_wp2_with fail
      refine HC.o.mono ?_
      rintro e w5 ⟨b,rfl,ht,hf2⟩
      cases b with
      | true =>
       go_wp2_with fail
       go_roundw
       case rel=>exact ⟨k+1,by omega,by go_num,ht trivial⟩
       case measure=>simp [intOf] <;> omega
      | false =>
       go_wp2_with fail
       go_ret
       exact ⟨false,rfl,by simp,fun _=>hf2 trivial⟩
  . obtain rfl:k=m.vers.length:=by omega
    go_wp2_with fail
    go_ret
    exact ⟨true,rfl,fun _=>HJk.o,by simp⟩
theorem usesRe_any (N:Nat) (l:List MdlD) (a:Option Addr) (c LB NB SB cnt:Nat) (m:MdlD) (n:Nat) (B0 B1:Nat) (w:World) (J:Nat->World->Prop) (R:World->Prop) (hn:n<l.length) (hm:l[n]=m) (hl:l.length<=100000) (hv:m.vers.length<=10000) (hs:∀ x ∈ m.vers,x.sb.size<=140737488355328)
   (hJ:∀ k wr,J k wr->LibA N l a c LB NB SB cnt wr/\Below N w wr) (hst:∀ k wr wx,J k wr->Below wr.heap.size wr wx->J k wx)
   (hsk:∀ k wr (h:k<m.vers.length),J k wr->m.vers[k].sb.size=0->J (k+1) wr)
   (hcl:∀ k wr (h:k<m.vers.length),J k wr->0<m.vers[k].sb.size->Calls Tryz.prog 121 #[.int .i64 k,.int .i64 (fndI l (m.vers[k]).sb),.pointer (some (.mk B0 0 none)),.pointer (some (.mk B1 0 none))] wr fun e w'=>∃ b,e=.returned (.bool b)/\(b=true->J (k+1) w')/\(b=false->R w'))
   (h0:J 0 w):Calls Tryz.prog 51 #[.pointer (some ⟨LB,0,none⟩),.int .i64 n,.func (.func 121) #[] #[.pointer (some (.mk B0 0 none)),.pointer (some (.mk B1 0 none))]] w fun e w'=>∃ b,e=.returned (.bool b)/\(b=true->J m.vers.length w')/\(b=false->R w'):=by
 have HJ:=hid hJ
 have HST:=hid hst
 have HSK:=hid hsk
 have HCL:=hid hcl
 have HS:=hid hs
 have H0:=hid h0
 obtain ⟨hA,_⟩:=hJ 0 w h0
 have c0:=hA.c0
 have hla:=hA.lb
 obtain ⟨b1,o1,e1,hb1,ph,hmo,r0,r1,r2,r3,r4,r5⟩:=hA.lib.get hn
 rw [hm] at hmo r0 r1 r2 r3 r4 r5
 subst e1
 have HM:=hid hmo
 have hnI:(n:Int)<(l.length:Int):=by omega
 have hn0:(0:Int)<=(n:Int):=by omega
 clear hJ hst hsk hcl hs h0 hA hmo
 go_enter Tryz.func51,Tryz.ntmps51
 go_wp2_with fail
 clear r0 r1 r2 r3 r4 r5 c0
 go_loopw [20] (fun i wr=>∃ k:Nat,k<=m.vers.length/\i=.int .i64 k/\J k wr) (fun i _=>m.vers.length - (intOf i).toNat)
 case atStart=>exact ⟨0,by omega,rfl,H0.o⟩
 case round =>
  obtain ⟨wo,rfl⟩:=ex1 wr
  obtain ⟨k,hk,rfl,hj⟩:=hrel
  have HJk:=hid hj
  obtain ⟨hA,hbN⟩:=HJ.o k wo hj
  have HAk:=hid hA
  clear hj
  by_cases hlt:k<m.vers.length
  . have hI:(k:Int)<(m.vers.length:Int):=by omega
    have hI0:(0:Int)<=(k:Int):=by omega
    have hvs:=(HM.o.kept (fun _=>(⟨hbN.size,fun b _ hb=>hbN.block b hb⟩:Kept (OldB N) w wo))).vers
    have hcap:=hvs.cap (by omega)
    obtain ⟨b2,o2,ea,hb2,dv,hdv,r0,r1,r2,r3,r4,r5,r6,r7⟩:=hvs.get hlt
    obtain ⟨da,dc,rfl⟩:=hdv.len
    have HSb:=hid (HS.o _ (List.getElem_mem hlt))
    obtain ⟨y,hy⟩:=ex2 (m.vers[k])
    have HSK1:=hid (HSK.o k wo hlt HJk.o)
    have HCL1:=hid fun wr hj=>HCL.o k wr hlt hj
    rw [hy] at r0 r1 r2 r3 r4 r5 r6 r7 HSb HSK1 HCL1
    clear hdv hvs hA hbN
    rw [ea]
    have hz:y.sb.toList.isEmpty=true↔y.sb.size=0:=by rw [toList_eq',List.isEmpty_iff,<- List.length_eq_zero_iff];simp
    have HZ:=hid hz
    clear hz
    cases hse:y.sb.toList.isEmpty with
    | true =>
     have HN1:=hid (HSK1.o (HZ.o.1 hse))
     clear HCL1 HAk HSK1
     go_wp2_with fail
     go_roundw
     case rel=>exact ⟨k+1,by omega,by go_num,HST.o _ _ _ HN1.o (below_al1 wo _)⟩
     case measure=>simp [intOf] <;> omega
    | false =>
     have hpos:0<y.sb.size:=by
       rcases Nat.eq_zero_or_pos y.sb.size with h | h
       . rw [HZ.o.2 h] at hse;cases hse
       . exact h
     go_upto_region 5 with fail
     have HJ1:Hid (J k (wo.alloc (.cells #[.string y.nm,.int .u8 y.kd,.int .i64 y.rg,.int .i64 y.ofv,.string y.en,.string y.ex,.slice da y.df.length dc,.string y.sb] 49))):=hid (HST.o _ _ _ HJk.o (below_al1 wo _))
     have hc7:(wo.alloc (.cells #[.string y.nm,.int .u8 y.kd,.int .i64 y.rg,.int .i64 y.ofv,.string y.en,.string y.ex,.slice da y.df.length dc,.string y.sb] 49)).cell? ⟨wo.heap.size,7,none⟩=some (.string y.sb):=by
       unfold World.cell?;simp only [World.alloc_heap_new];rfl
     generalize wo.alloc (.cells #[.string y.nm,.int .u8 y.kd,.int .i64 y.rg,.int .i64 y.ofv,.string y.en,.string y.ex,.slice da y.df.length dc,.string y.sb] 49)=W1 at *
     have hA1:=(HJ.o k W1 HJ1.o).1
     have c1:=hA1.c1
     have hlk:=hA1.look HSb.o
     have HB:=hid fun nq=>HCL1.o (W1.drewN nq) (HST.o _ _ _ HJ1.o (below_drewN (Below.refl _ _) nq)) hpos
     clear hA1 HCL1 HSK1 HAk r0 r1 r2 r3 r4 r5 r6 r7
     cases hf:fnd l y.sb with
     | none =>
      rw [hf] at hlk
      simp only [Option.getD_none,Option.isSome_none] at hlk
      go_quiet (fail)
      have HC:=hid (HB.o nq)
      rw [fndI_none hf] at HC
      generalize W1.drewN nq=W2 at *
      clear HB hlk hc7 c1
      go_wp2_with fail
      refine HC.o.mono ?_
      rintro e w5 ⟨b,rfl,ht,hf2⟩
      cases b with
      | true =>
       go_wp2_with fail
       go_roundw
       case rel=>exact ⟨k+1,by omega,by go_num,ht trivial⟩
       case measure=>simp [intOf] <;> omega
      | false =>
       go_wp2_with fail
       go_ret
       exact ⟨false,rfl,by simp,fun _=>hf2 trivial⟩
     | some q =>
      rw [hf] at hlk
      simp only [Option.getD_some,Option.isSome_some] at hlk
      go_quiet (fail)
      have HC:=hid (HB.o nq)
      rw [fndI_some hf] at HC
      generalize W1.drewN nq=W2 at *
      clear HB hlk hc7 c1
      go_wp2_with fail
      refine HC.o.mono ?_
      rintro e w5 ⟨b,rfl,ht,hf2⟩
      cases b with
      | true =>
       go_wp2_with fail
       go_roundw
       case rel=>exact ⟨k+1,by omega,by go_num,ht trivial⟩
       case measure=>simp [intOf] <;> omega
      | false =>
       go_wp2_with fail
       go_ret
       exact ⟨false,rfl,by simp,fun _=>hf2 trivial⟩
  . obtain rfl:k=m.vers.length:=by omega
    go_wp2_with fail
    go_ret
    exact ⟨true,rfl,fun _=>HJk.o,by simp⟩
theorem usesSi_any (N:Nat) (l:List MdlD) (a:Option Addr) (c LB NB SB cnt:Nat) (m:MdlD) (n:Nat) (B0 B1 B2:Nat) (w:World) (J:Nat->World->Prop) (R:World->Prop) (hn:n<l.length) (hm:l[n]=m) (hl:l.length<=100000) (hv:m.vers.length<=10000) (hs:∀ x ∈ m.vers,x.sb.size<=140737488355328)
   (hJ:∀ k wr,J k wr->LibA N l a c LB NB SB cnt wr/\Below N w wr) (hst:∀ k wr wx,J k wr->Below wr.heap.size wr wx->J k wx)
   (hsk:∀ k wr (h:k<m.vers.length),J k wr->m.vers[k].sb.size=0->J (k+1) wr)
   (hcl:∀ k wr (h:k<m.vers.length),J k wr->0<m.vers[k].sb.size->Calls Tryz.prog 85 #[.int .i64 k,.int .i64 (fndI l (m.vers[k]).sb),.pointer (some (.mk B0 0 none)),.pointer (some (.mk B1 0 none)),.pointer (some (.mk B2 0 none))] wr fun e w'=>∃ b,e=.returned (.bool b)/\(b=true->J (k+1) w')/\(b=false->R w'))
   (h0:J 0 w):Calls Tryz.prog 51 #[.pointer (some ⟨LB,0,none⟩),.int .i64 n,.func (.func 85) #[] #[.pointer (some (.mk B0 0 none)),.pointer (some (.mk B1 0 none)),.pointer (some (.mk B2 0 none))]] w fun e w'=>∃ b,e=.returned (.bool b)/\(b=true->J m.vers.length w')/\(b=false->R w'):=by
 have HJ:=hid hJ
 have HST:=hid hst
 have HSK:=hid hsk
 have HCL:=hid hcl
 have HS:=hid hs
 have H0:=hid h0
 obtain ⟨hA,_⟩:=hJ 0 w h0
 have c0:=hA.c0
 have hla:=hA.lb
 obtain ⟨b1,o1,e1,hb1,ph,hmo,r0,r1,r2,r3,r4,r5⟩:=hA.lib.get hn
 rw [hm] at hmo r0 r1 r2 r3 r4 r5
 subst e1
 have HM:=hid hmo
 have hnI:(n:Int)<(l.length:Int):=by omega
 have hn0:(0:Int)<=(n:Int):=by omega
 clear hJ hst hsk hcl hs h0 hA hmo
 go_enter Tryz.func51,Tryz.ntmps51
 go_wp2_with fail
 clear r0 r1 r2 r3 r4 r5 c0
 go_loopw [20] (fun i wr=>∃ k:Nat,k<=m.vers.length/\i=.int .i64 k/\J k wr) (fun i _=>m.vers.length - (intOf i).toNat)
 case atStart=>exact ⟨0,by omega,rfl,H0.o⟩
 case round =>
  obtain ⟨wo,rfl⟩:=ex1 wr
  obtain ⟨k,hk,rfl,hj⟩:=hrel
  have HJk:=hid hj
  obtain ⟨hA,hbN⟩:=HJ.o k wo hj
  have HAk:=hid hA
  clear hj
  by_cases hlt:k<m.vers.length
  . have hI:(k:Int)<(m.vers.length:Int):=by omega
    have hI0:(0:Int)<=(k:Int):=by omega
    have hvs:=(HM.o.kept (fun _=>(⟨hbN.size,fun b _ hb=>hbN.block b hb⟩:Kept (OldB N) w wo))).vers
    have hcap:=hvs.cap (by omega)
    obtain ⟨b2,o2,ea,hb2,dv,hdv,r0,r1,r2,r3,r4,r5,r6,r7⟩:=hvs.get hlt
    obtain ⟨da,dc,rfl⟩:=hdv.len
    have HSb:=hid (HS.o _ (List.getElem_mem hlt))
    obtain ⟨y,hy⟩:=ex2 (m.vers[k])
    have HSK1:=hid (HSK.o k wo hlt HJk.o)
    have HCL1:=hid fun wr hj=>HCL.o k wr hlt hj
    rw [hy] at r0 r1 r2 r3 r4 r5 r6 r7 HSb HSK1 HCL1
    clear hdv hvs hA hbN
    rw [ea]
    have hz:y.sb.toList.isEmpty=true↔y.sb.size=0:=by rw [toList_eq',List.isEmpty_iff,<- List.length_eq_zero_iff];simp
    have HZ:=hid hz
    clear hz
    cases hse:y.sb.toList.isEmpty with
    | true =>
     have HN1:=hid (HSK1.o (HZ.o.1 hse))
     clear HCL1 HAk HSK1
     go_wp2_with fail
     go_roundw
     case rel=>exact ⟨k+1,by omega,by go_num,HST.o _ _ _ HN1.o (below_al1 wo _)⟩
     case measure=>simp [intOf] <;> omega
    | false =>
     have hpos:0<y.sb.size:=by
       rcases Nat.eq_zero_or_pos y.sb.size with h | h
       . rw [HZ.o.2 h] at hse;cases hse
       . exact h
     go_upto_region 5 with fail
     have HJ1:Hid (J k (wo.alloc (.cells #[.string y.nm,.int .u8 y.kd,.int .i64 y.rg,.int .i64 y.ofv,.string y.en,.string y.ex,.slice da y.df.length dc,.string y.sb] 49))):=hid (HST.o _ _ _ HJk.o (below_al1 wo _))
     have hc7:(wo.alloc (.cells #[.string y.nm,.int .u8 y.kd,.int .i64 y.rg,.int .i64 y.ofv,.string y.en,.string y.ex,.slice da y.df.length dc,.string y.sb] 49)).cell? ⟨wo.heap.size,7,none⟩=some (.string y.sb):=by
       unfold World.cell?;simp only [World.alloc_heap_new];rfl
     generalize wo.alloc (.cells #[.string y.nm,.int .u8 y.kd,.int .i64 y.rg,.int .i64 y.ofv,.string y.en,.string y.ex,.slice da y.df.length dc,.string y.sb] 49)=W1 at *
     have hA1:=(HJ.o k W1 HJ1.o).1
     have c1:=hA1.c1
     have hlk:=hA1.look HSb.o
     have HB:=hid fun nq=>HCL1.o (W1.drewN nq) (HST.o _ _ _ HJ1.o (below_drewN (Below.refl _ _) nq)) hpos
     clear hA1 HCL1 HSK1 HAk r0 r1 r2 r3 r4 r5 r6 r7
     cases hf:fnd l y.sb with
     | none =>
      rw [hf] at hlk
      simp only [Option.getD_none,Option.isSome_none] at hlk
      go_quiet (fail)
      have HC:=hid (HB.o nq)
      rw [fndI_none hf] at HC
      generalize W1.drewN nq=W2 at *
      clear HB hlk hc7 c1
      go_wp2_with fail
      refine HC.o.mono ?_
      rintro e w5 ⟨b,rfl,ht,hf2⟩
      cases b with
      | true =>
       go_wp2_with fail
       go_roundw
       case rel=>exact ⟨k+1,by omega,by go_num,ht trivial⟩
       case measure=>simp [intOf] <;> omega
      | false =>
       go_wp2_with fail
       go_ret
       exact ⟨false,rfl,by simp,fun _=>hf2 trivial⟩
     | some q =>
      rw [hf] at hlk
      simp only [Option.getD_some,Option.isSome_some] at hlk
      go_quiet (fail)
      have HC:=hid (HB.o nq)
      rw [fndI_some hf] at HC
      generalize W1.drewN nq=W2 at *
      clear HB hlk hc7 c1
      go_wp2_with fail
      refine HC.o.mono ?_
      rintro e w5 ⟨b,rfl,ht,hf2⟩
      cases b with
      | true =>
       go_wp2_with fail
       go_roundw
       case rel=>exact ⟨k+1,by omega,by go_num,ht trivial⟩
       case measure=>simp [intOf] <;> omega
      | false =>
       go_wp2_with fail
       go_ret
       exact ⟨false,rfl,by simp,fun _=>hf2 trivial⟩
  . obtain rfl:k=m.vers.length:=by omega
    go_wp2_with fail
    go_ret
    exact ⟨true,rfl,fun _=>HJk.o,by simp⟩
theorem usesEx_any (N:Nat) (l:List MdlD) (a:Option Addr) (c LB NB SB cnt:Nat) (m:MdlD) (n:Nat) (B0 B1 B2:Nat) (w:World) (J:Nat->World->Prop) (R:World->Prop) (hn:n<l.length) (hm:l[n]=m) (hl:l.length<=100000) (hv:m.vers.length<=10000) (hs:∀ x ∈ m.vers,x.sb.size<=140737488355328)
   (hJ:∀ k wr,J k wr->LibA N l a c LB NB SB cnt wr/\Below N w wr) (hst:∀ k wr wx,J k wr->Below wr.heap.size wr wx->J k wx)
   (hsk:∀ k wr (h:k<m.vers.length),J k wr->m.vers[k].sb.size=0->J (k+1) wr)
   (hcl:∀ k wr (h:k<m.vers.length),J k wr->0<m.vers[k].sb.size->Calls Tryz.prog 52 #[.int .i64 k,.int .i64 (fndI l (m.vers[k]).sb),.pointer (some (.mk B0 0 none)),.pointer (some (.mk B1 0 none)),.pointer (some (.mk B2 0 none))] wr fun e w'=>∃ b,e=.returned (.bool b)/\(b=true->J (k+1) w')/\(b=false->R w'))
   (h0:J 0 w):Calls Tryz.prog 51 #[.pointer (some ⟨LB,0,none⟩),.int .i64 n,.func (.func 52) #[] #[.pointer (some (.mk B0 0 none)),.pointer (some (.mk B1 0 none)),.pointer (some (.mk B2 0 none))]] w fun e w'=>∃ b,e=.returned (.bool b)/\(b=true->J m.vers.length w')/\(b=false->R w'):=by
 have HJ:=hid hJ
 have HST:=hid hst
 have HSK:=hid hsk
 have HCL:=hid hcl
 have HS:=hid hs
 have H0:=hid h0
 obtain ⟨hA,_⟩:=hJ 0 w h0
 have c0:=hA.c0
 have hla:=hA.lb
 obtain ⟨b1,o1,e1,hb1,ph,hmo,r0,r1,r2,r3,r4,r5⟩:=hA.lib.get hn
 rw [hm] at hmo r0 r1 r2 r3 r4 r5
 subst e1
 have HM:=hid hmo
 have hnI:(n:Int)<(l.length:Int):=by omega
 have hn0:(0:Int)<=(n:Int):=by omega
 clear hJ hst hsk hcl hs h0 hA hmo
 go_enter Tryz.func51,Tryz.ntmps51
 go_wp2_with fail
 clear r0 r1 r2 r3 r4 r5 c0
 go_loopw [20] (fun i wr=>∃ k:Nat,k<=m.vers.length/\i=.int .i64 k/\J k wr) (fun i _=>m.vers.length - (intOf i).toNat)
 case atStart=>exact ⟨0,by omega,rfl,H0.o⟩
 case round =>
  obtain ⟨wo,rfl⟩:=ex1 wr
  obtain ⟨k,hk,rfl,hj⟩:=hrel
  have HJk:=hid hj
  obtain ⟨hA,hbN⟩:=HJ.o k wo hj
  have HAk:=hid hA
  clear hj
  by_cases hlt:k<m.vers.length
  . have hI:(k:Int)<(m.vers.length:Int):=by omega
    have hI0:(0:Int)<=(k:Int):=by omega
    have hvs:=(HM.o.kept (fun _=>(⟨hbN.size,fun b _ hb=>hbN.block b hb⟩:Kept (OldB N) w wo))).vers
    have hcap:=hvs.cap (by omega)
    obtain ⟨b2,o2,ea,hb2,dv,hdv,r0,r1,r2,r3,r4,r5,r6,r7⟩:=hvs.get hlt
    obtain ⟨da,dc,rfl⟩:=hdv.len
    have HSb:=hid (HS.o _ (List.getElem_mem hlt))
    obtain ⟨y,hy⟩:=ex2 (m.vers[k])
    have HSK1:=hid (HSK.o k wo hlt HJk.o)
    have HCL1:=hid fun wr hj=>HCL.o k wr hlt hj
    rw [hy] at r0 r1 r2 r3 r4 r5 r6 r7 HSb HSK1 HCL1
    clear hdv hvs hA hbN
    rw [ea]
    have hz:y.sb.toList.isEmpty=true↔y.sb.size=0:=by rw [toList_eq',List.isEmpty_iff,<- List.length_eq_zero_iff];simp
    have HZ:=hid hz
    clear hz
    cases hse:y.sb.toList.isEmpty with
    | true =>
     have HN1:=hid (HSK1.o (HZ.o.1 hse))
     clear HCL1 HAk HSK1
     go_wp2_with fail
     go_roundw
     case rel=>exact ⟨k+1,by omega,by go_num,HST.o _ _ _ HN1.o (below_al1 wo _)⟩
     case measure=>simp [intOf] <;> omega
    | false =>
     have hpos:0<y.sb.size:=by
       rcases Nat.eq_zero_or_pos y.sb.size with h | h
       . rw [HZ.o.2 h] at hse;cases hse
       . exact h
     go_upto_region 5 with fail
     have HJ1:Hid (J k (wo.alloc (.cells #[.string y.nm,.int .u8 y.kd,.int .i64 y.rg,.int .i64 y.ofv,.string y.en,.string y.ex,.slice da y.df.length dc,.string y.sb] 49))):=hid (HST.o _ _ _ HJk.o (below_al1 wo _))
     have hc7:(wo.alloc (.cells #[.string y.nm,.int .u8 y.kd,.int .i64 y.rg,.int .i64 y.ofv,.string y.en,.string y.ex,.slice da y.df.length dc,.string y.sb] 49)).cell? ⟨wo.heap.size,7,none⟩=some (.string y.sb):=by
       unfold World.cell?;simp only [World.alloc_heap_new];rfl
     generalize wo.alloc (.cells #[.string y.nm,.int .u8 y.kd,.int .i64 y.rg,.int .i64 y.ofv,.string y.en,.string y.ex,.slice da y.df.length dc,.string y.sb] 49)=W1 at *
     have hA1:=(HJ.o k W1 HJ1.o).1
     have c1:=hA1.c1
     have hlk:=hA1.look HSb.o
     have HB:=hid fun nq=>HCL1.o (W1.drewN nq) (HST.o _ _ _ HJ1.o (below_drewN (Below.refl _ _) nq)) hpos
     clear hA1 HCL1 HSK1 HAk r0 r1 r2 r3 r4 r5 r6 r7
     cases hf:fnd l y.sb with
     | none =>
      rw [hf] at hlk
      simp only [Option.getD_none,Option.isSome_none] at hlk
      go_quiet (fail)
      have HC:=hid (HB.o nq)
      rw [fndI_none hf] at HC
      generalize W1.drewN nq=W2 at *
      clear HB hlk hc7 c1
      go_wp2_with fail
      refine HC.o.mono ?_
      rintro e w5 ⟨b,rfl,ht,hf2⟩
      cases b with
      | true =>
       go_wp2_with fail
       go_roundw
       case rel=>exact ⟨k+1,by omega,by go_num,ht trivial⟩
       case measure=>simp [intOf] <;> omega
      | false =>
       go_wp2_with fail
       go_ret
       exact ⟨false,rfl,by simp,fun _=>hf2 trivial⟩
     | some q =>
      rw [hf] at hlk
      simp only [Option.getD_some,Option.isSome_some] at hlk
      go_quiet (fail)
      have HC:=hid (HB.o nq)
      rw [fndI_some hf] at HC
      generalize W1.drewN nq=W2 at *
      clear HB hlk hc7 c1
      go_wp2_with fail
      refine HC.o.mono ?_
      rintro e w5 ⟨b,rfl,ht,hf2⟩
      cases b with
      | true =>
       go_wp2_with fail
       go_roundw
       case rel=>exact ⟨k+1,by omega,by go_num,ht trivial⟩
       case measure=>simp [intOf] <;> omega
      | false =>
       go_wp2_with fail
       go_ret
       exact ⟨false,rfl,by simp,fun _=>hf2 trivial⟩
  . obtain rfl:k=m.vers.length:=by omega
    go_wp2_with fail
    go_ret
    exact ⟨true,rfl,fun _=>HJk.o,by simp⟩
end Go.Proofs
