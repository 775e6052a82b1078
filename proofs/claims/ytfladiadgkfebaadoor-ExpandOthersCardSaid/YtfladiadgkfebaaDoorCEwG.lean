/- Walks: the law ExpandOthers. -/
import Derived.Test.YtfladiadgkfebaaDoorCEwF
namespace Go.Proofs
open Go.RowKit Go.Lx Go.Md Go.Shelf Go.BigFrame Go.Rgi
set_option linter.unusedVariables false
theorem info_Mdl:(Tryd.prog.info? 31).map (fun i=>(i.zero,i.size,i.bytes))=some (some (.agg #[.string ⟨#[]⟩,.slice none 0 0,.slice none 0 0,.slice none 0 0,.slice none 0 0,.slice none 0 0]),6,136):=by kernel_rfl
theorem ModE.moves {N:Nat}:Moves 6 (ModE N) (Kept (OldB N)) where
 cell:=fun w b o x ⟨p,hm,h0,h1,h2,h3,h4,h5⟩ j hj=>by
   have:j=0∨j=1∨j=2∨j=3∨j=4∨j=5:=by omega
   rcases this with rfl | rfl | rfl | rfl | rfl | rfl
   · exact ⟨_,h0,rfl⟩
   · exact ⟨_,h1,rfl⟩
   · exact ⟨_,h2,rfl⟩
   · exact ⟨_,h3,rfl⟩
   · exact ⟨_,h4,rfl⟩
   · exact ⟨_,h5,rfl⟩
 move:=fun w w' b o b' o' x ⟨p,hm,h0,h1,h2,h3,h4,h5⟩ hk hc =>
   ⟨p,hm.kept fun _=>hk,(hc 0 (by omega)).trans h0,(hc 1 (by omega)).trans h1,(hc 2 (by omega)).trans h2,(hc 3 (by omega)).trans h3,(hc 4 (by omega)).trans h4,(hc 5 (by omega)).trans h5⟩
theorem emp_iff {s:ByteArray}:s.toList.isEmpty=true↔s.size=0:=by
 rw [toList_eq',List.isEmpty_iff,← List.length_eq_zero_iff];simp
theorem eq_txt {s t:ByteArray}:(s.toList == t.toList)=true↔s=t:=eqS_iff
theorem ne_txt {s t:ByteArray} (h:(s.toList == t.toList)=false):s≠t:=fun e=>by
 rw [eq_txt.2 e] at h;cases h
theorem ModE.monoQ {Q:BP} {N:Nat}:Mono Q (OldB N) (ModE N):=fun w w' b o x ⟨p,hm,h0,h1,h2,h3,h4,h5⟩ hb hq hw hr=>by
 have hc:∀ j u,w.cell? ⟨b,o+j,none⟩=some u→w'.cell? ⟨b,o+j,none⟩=some u:=fun j u h=>(hw.cell hb hq).trans h
 exact ⟨p,hm.kept fun _=>hr,hc 0 _ h0,hc 1 _ h1,hc 2 _ h2,hc 3 _ h3,hc 4 _ h4,hc 5 _ h5⟩
theorem oldB_keep {N:Nat} {w w':World} (g:Below N w w'):Kept (OldB N) w w':=⟨g.size,fun b _ hb=>g.block b hb⟩
theorem row_mdl {N:Nat} {q:World} {u:Nat} {m:MdlD} {p:Ph} (h:On q u (.cells #[.string m.nm,.slice p.a1 m.vars.length p.c1,.slice p.a2 m.evs.length p.c2,.slice p.a3 m.regs.length p.c3,.slice p.a4 m.vers.length p.c4,.slice p.a5 m.trns.length p.c5] 31)) (hm:Mod (fun _=>OldB N) q m p):Sl anyB 6 (ModE N) q (.slice (some ⟨u,0,none⟩) [m].length 1) [m] :=
 .inr ⟨u,0,1,rfl,Nat.le_refl _,(Array.getElem?_eq_some_iff.1 h).1,trivial,fun i hi=>by
   obtain rfl:i=0:=by simp at hi;exact hi
   exact ⟨p,hm,cell_row h,cell_row h,cell_row h,cell_row h,cell_row h,cell_row h⟩⟩
theorem expM_ok2 {l:List MdlD} (hp:∀ m ∈ l,MdlOk m∧Prt m):MdlOk (expM l).1:=by
 by_cases h:(expM l).2.2=0
 · exact (expM_fit (fun m hm=>(hp m hm).2) h).1
 · rw [expM_nil1 h]
   exact ⟨by decide,by decide,fun x hx=>by (cases hx),by decide,fun x hx=>by (cases hx),by decide,fun x hx=>by (cases hx),fun x hx=>by (cases hx),by decide,fun x hx=>by (cases hx),by decide,fun x hx=>by (cases hx)⟩
set_option maxRecDepth 100000 in
set_option maxHeartbeats 8000000 in
theorem expandOthers_any (l:List MdlD) (a:Option Addr) (c:Nat) (x:MdlD) (px:Ph) (W:World) (hl:LibV W.heap.size W (.slice a l.length c) l) (hll:l.length≤140737488355328) (hok:∀ m ∈ l,MdlOk m) (hx:Mod anyM W x px) (okx:MdlOk x) (hT:Tab W) :
   Calls Tryd.prog 4 #[.slice a l.length c,mdV x px] W fun e w'=>e=.returned (.bool true)∧Below W.heap.size W w':=by
 have HWk:=Lib.hid (worksR hT)
 have HL:=Lib.hid hl
 have HOK:=Lib.hid hok
 have HT:=Lib.hid hT
 have HX:=Lib.hid fun q (g:Below W.heap.size W q)=>hx.below g
 have hB1:=below_al1 W (.cells #[.string x.nm,.slice px.a1 x.vars.length px.c1,.slice px.a2 x.evs.length px.c2,.slice px.a3 x.regs.length px.c3,.slice px.a4 x.vers.length px.c4,.slice px.a5 x.trns.length px.c5] 31)
 have hon:=on_new W (.cells #[.string x.nm,.slice px.a1 x.vars.length px.c1,.slice px.a2 x.evs.length px.c2,.slice px.a3 x.regs.length px.c3,.slice px.a4 x.vers.length px.c4,.slice px.a5 x.trns.length px.c5] 31)
 have HF:=Lib.hid (few18_any W.heap.size l a c (W.alloc (.cells #[.string x.nm,.slice px.a1 x.vars.length px.c1,.slice px.a2 x.evs.length px.c2,.slice px.a3 x.regs.length px.c3,.slice px.a4 x.vers.length px.c4,.slice px.a5 x.trns.length px.c5] 31)) (hl.below hB1) hB1.size hll hok)
 have HF2:Hid (∀ (q:World) (u:Nat),On q u (.cells #[.string x.nm,.slice px.a1 x.vars.length px.c1,.slice px.a2 x.evs.length px.c2,.slice px.a3 x.regs.length px.c3,.slice px.a4 x.vers.length px.c4,.slice px.a5 x.trns.length px.c5] 31)→Mod anyM q x px→Calls Tryd.prog 5 #[.slice (some ⟨u,0,none⟩) 1 1] q fun e w'=>BoolSays (Fw [x]) e∧Below q.heap.size q w'):=Lib.hid fun q u h hm=>few18_any q.heap.size [x] (some ⟨u,0,none⟩) 1 q (lib1 h hm) (Nat.le_refl _) (show 1≤140737488355328 by decide) (fun m hm=>by rw [List.mem_singleton] at hm;subst hm;exact okx)
 have HOX:=Lib.hid okx
 have HXO:=Lib.hid fun q (g:Below W.heap.size W q)=>(hx.weaken (Q':=fun _=>OldB W.heap.size) fun _ _ hb _=>hb).kept fun _=>oldB_keep g
 unfold mdV
 clear hl hok hT hx okx
 by_cases h4:l.length≤4
 · have d4:((l.length:Int)≤4):=by omega
   go_enter Tryd.func4,Tryd.ntmps4
   go_upto_region 1 with fail
   generalize W.alloc (.cells #[.string x.nm,.slice px.a1 x.vars.length px.c1,.slice px.a2 x.evs.length px.c2,.slice px.a3 x.regs.length px.c3,.slice px.a4 x.vers.length px.c4,.slice px.a5 x.trns.length px.c5] 31)=W1 at *
   generalize hNB:W.heap.size=NB at hB1 hon ⊢
   subst hNB
   have HON:=Lib.hid hon
   have HB1:=Lib.hid hB1
   obtain ⟨x0,x1,x2,x3,x4,x5,_⟩:=box_at hon
   clear hon hB1
   have hNl:W.heap.size<W1.heap.size:=(Array.getElem?_eq_some_iff.1 HON.out).1
   go_wp2_with ((with_reducible refine (HF.out).mono ?_);rintro e w1 ⟨⟨b,rfl,hs⟩,hb1⟩;obtain ⟨x0,x1,x2,x3,x4,x5,_⟩:=box_at (HON.out.next hb1);have hbw:=HB1.out.trans (hb1.mono HB1.out.size);rcases b with _ | _)
   · go_wp2_with ((with_reducible refine (HWk.out _ hbw).mono ?_);rintro e w9 ⟨rfl,hb9⟩)
     go_ret
     exact ⟨rfl,hbw.trans (hb9.mono hbw.size)⟩
   go_wp2_with ((with_reducible refine (HF2.out _ _ (on_new _ _) ((HX.out _ hbw).below (below_al1 _ _))).mono ?_);rintro e w2 ⟨⟨b,rfl,hs2⟩,hb2⟩;have hb12:=(hb1.trans ((below_al1 w1 (.cells #[.string x.nm,.slice px.a1 x.vars.length px.c1,.slice px.a2 x.evs.length px.c2,.slice px.a3 x.regs.length px.c3,.slice px.a4 x.vers.length px.c4,.slice px.a5 x.trns.length px.c5] 31)).mono hb1.size)).trans (hb2.mono (hb1.trans ((below_al1 w1 (.cells #[.string x.nm,.slice px.a1 x.vars.length px.c1,.slice px.a2 x.evs.length px.c2,.slice px.a3 x.regs.length px.c3,.slice px.a4 x.vers.length px.c4,.slice px.a5 x.trns.length px.c5] 31)).mono hb1.size)).size);obtain ⟨x0,x1,x2,x3,x4,x5,_⟩:=box_at (HON.out.next hb12);rcases b with _ | _)
   · go_wp2_with ((with_reducible refine (HWk.out _ (HB1.out.trans (hb12.mono HB1.out.size))).mono ?_);rintro e w9 ⟨rfl,hb9⟩)
     go_ret
     exact ⟨rfl,(HB1.out.trans (hb12.mono HB1.out.size)).trans (hb9.mono (HB1.out.trans (hb12.mono HB1.out.size)).size)⟩
   · have hFw:=hs rfl
     have hFx:=(hs2 rfl).all 0 (by show 0<1;decide)
     have hPr:∀ m ∈ l,MdlOk m∧Prt m:=fun m hm=>⟨HOK.out m hm,Prt.of (HOK.out m hm) (hFw.mem hm).sml⟩
     have hPx:Prt x:=Prt.of HOX.out hFx.sml
     have HPr:=Lib.hid hPr
     have HPx:=Lib.hid hPx
     have HS:Hid (∀ q,Below w2.heap.size w2 q→q.cell? ⟨W.heap.size,0,none⟩=some (.string x.nm)∧q.cell? ⟨W.heap.size,1,none⟩=some (.slice px.a1 x.vars.length px.c1)∧q.cell? ⟨W.heap.size,2,none⟩=some (.slice px.a2 x.evs.length px.c2)∧q.cell? ⟨W.heap.size,3,none⟩=some (.slice px.a3 x.regs.length px.c3)∧q.cell? ⟨W.heap.size,4,none⟩=some (.slice px.a4 x.vers.length px.c4)∧q.cell? ⟨W.heap.size,5,none⟩=some (.slice px.a5 x.trns.length px.c5)):=Lib.hid fun q g=>by
       have h:=(HON.out.next hb12).next g
       exact ⟨cell_row h,cell_row h,cell_row h,cell_row h,cell_row h,cell_row h⟩
     have HB2:=Lib.hid (HB1.out.trans (hb12.mono HB1.out.size))
     have HN2:Hid (W.heap.size<w2.heap.size):=Lib.hid (Nat.lt_of_lt_of_le hNl hb12.size)
     have HBx:=Lib.hid fun q (g:Below w2.heap.size w2 q)=>(HON.out.next hb12).next g
     clear hs hs2 hFw hFx hPr hPx hb1 hb2 hb12 hbw HON HB1 HF HF2 hNl x0 x1 x2 x3 x4 x5
     obtain ⟨e1,he1⟩:∃ e1,(riM x).2.2=e1:=⟨_,rfl⟩
     have hRi:=right_any x px w2 (HX.out _ HB2.out) (HT.out.next HB2.out) HOX.out
     rw [he1] at hRi
     unfold mdV at hRi
     have HRi:=Lib.hid hRi
     have HE1:=Lib.hid he1
     clear hRi he1
     obtain ⟨x0,x1,x2,x3,x4,x5⟩:=HS.out w2 (Below.refl _ _)
     by_cases he0:e1=0
     · subst he0
       have hrix:=riM_ok HE1.out
       have HRX:=Lib.hid hrix
       obtain ⟨_,_,_,hxv,_⟩:=right_len hrix
       clear hrix
       go_upto_region 6 with ((with_reducible refine (HRi.out).mono ?_);rintro e w3 ⟨rfl,hb3⟩)
       have HB3:=Lib.hid hb3
       clear hb3 x0 x1 x2 x3 x4 x5 HRi
       go_wp2_with fail
       go_loopw [8] (fun i wr=>∃ v:Nat,v≤x.vers.length∧i=.int .i64 v∧Below w2.heap.size w2 wr∧Hid (∀ j (h:j<x.vers.length),j<v→x.vers[j].sb.size=0)) (fun i _=>x.vers.length - (intOf i).toNat)
       case atStart=>exact ⟨0,by omega,rfl,HB3.out,Lib.hid fun j _ h=>absurd h (Nat.not_lt_zero _)⟩
       case round =>
        obtain ⟨wo,rfl⟩:∃ wo:World,wo=wr:=⟨_,rfl⟩
        obtain ⟨v,hv,rfl,hb,HZ⟩:=hrel
        clear HB3
        have HB:=Lib.hid hb
        have hbW:=HB2.out.trans (hb.mono HB2.out.size)
        obtain ⟨x0,x1,x2,x3,x4,x5⟩:=HS.out wo hb
        by_cases hlt:v<x.vers.length
        · have hvI:(v:Int)<(x.vers.length:Int):=by omega
          have hv0:(0:Int)≤(v:Int):=by omega
          obtain ⟨b4,o4,e4,hb4,dv,hdv,_,_,_,_,_,_,_,s7⟩:=(HX.out wo hbW).vers.get hlt
          rw [e4] at x4
          obtain ⟨y,hy⟩:∃ y,x.vers[v].sb=y:=⟨_,rfl⟩
          rw [hy] at s7
          have HY:=Lib.hid hy
          have HBW:=Lib.hid hbW
          clear hy hbW hb hdv
          cases hse:y.toList.isEmpty with
          | true =>
           have HZ2:Hid (∀ j (h:j<x.vers.length),j<v+1→x.vers[j].sb.size=0):=Lib.hid fun j h hj=>by
             by_cases e:j=v
             · subst e;rw [HY.out];exact emp_iff.1 hse
             · exact HZ.out j h (by omega)
           go_wp2_with fail
           go_roundw
           case rel=>exact ⟨v+1,by omega,by go_num,HB.out,HZ2⟩
           case measure=>simp [intOf] <;> omega
          | false =>
           go_wp2_with ((with_reducible refine (HWk.out _ HBW.out).mono ?_);rintro e w9 ⟨rfl,hb9⟩)
           go_ret
           exact ⟨rfl,HBW.out.trans (hb9.mono HBW.out.size)⟩
        · obtain rfl:v=x.vers.length:=by omega
          have HNs:Hid (NoSub x):=Lib.hid fun y hy=>by
            obtain ⟨j,hj,rfl⟩:=List.getElem_of_mem hy
            exact HZ.out j hj hj
          have HW4:=Lib.hid hbW
          clear HZ hbW hb
          go_wp2_with fail
          clear x0 x1 x2 x3 x4 x5
          go_loopw [9] (fun i wr=>∃ k:Nat,k≤l.length∧i=.int .i64 k∧Below w2.heap.size w2 wr∧Hid (∀ j (h:j<l.length),j<k→l[j].nm≠x.nm∧∀ v ∈ l[j].vers,v.sb≠x.nm)) (fun i _=>l.length - (intOf i).toNat)
          case atStart=>exact ⟨0,by omega,rfl,HB.out,Lib.hid fun j _ h=>absurd h (Nat.not_lt_zero _)⟩
          case round =>
           obtain ⟨wo2,rfl⟩:∃ wo2:World,wo2=wr:=⟨_,rfl⟩
           obtain ⟨k,hk,rfl,hb,HZ⟩:=hrel
           clear HB HW4
           have HB:=Lib.hid hb
           have hbW:=HB2.out.trans (hb.mono HB2.out.size)
           obtain ⟨x0,x1,x2,x3,x4,x5⟩:=HS.out wo2 hb
           by_cases hlt:k<l.length
           · have hkI:(k:Int)<(l.length:Int):=by omega
             have hk0:(0:Int)≤(k:Int):=by omega
             obtain ⟨m,hm⟩:∃ m,l[k]=m:=⟨_,rfl⟩
             obtain ⟨b1,o1,e1,hb1,pm,hmo,r0,_,_,_,r4,_⟩:=(HL.out.below hbW).get hlt
             rw [hm] at hmo r0 r4
             have hmv:m.vers.length≤140737488355328:=by have:=(HPr.out _ (List.getElem_mem hlt)).1.vers;rw [hm] at this;exact this
             have HMo:Hid (Mod (fun _=>OldB W.heap.size) wo2 m pm):=Lib.hid hmo
             have HM:=Lib.hid hm
             have HBW:=Lib.hid hbW
             obtain ⟨y,hy⟩:∃ y,m.nm=y:=⟨_,rfl⟩
             rw [hy] at r0
             have HY:=Lib.hid hy
             subst e1
             clear hmo hm hy hb hbW
             cases hq:(y.toList == x.nm.toList) with
             | true =>
              go_upto_region 14 with fail
              go_quiet (fail)
              have hdn:=below_drewN HBW.out nq
              go_wp2_with ((with_reducible refine (HWk.out _ hdn).mono ?_);rintro e w9 ⟨rfl,hb9⟩)
              go_ret
              exact ⟨rfl,hdn.trans (hb9.mono hdn.size)⟩
             | false =>
              have hne:=ne_txt hq
              have HNe:=Lib.hid hne
              clear hne
              go_upto_region 14 with fail
              go_quiet (fail)
              have hb':=below_drewN HB.out nq
              have hk':Kept (OldB W.heap.size) wo2 (wo2.drewN nq):=Kept.of_below (below_drewN (Below.refl _ _) nq)
              have HL3:Hid ((wo2.drewN nq).cell? ⟨b1,o1+k * 6+4,none⟩=some (.slice pm.a4 m.vers.length pm.c4)):=Lib.hid r4
              have HM3:Hid (Mod (fun _=>OldB W.heap.size) (wo2.drewN nq) m pm):=Lib.hid (HMo.out.kept fun _=>hk')
              generalize wo2.drewN nq=wo3 at *
              have HB3:=Lib.hid hb'
              clear hb' hk' HMo x0 x1 x2 x3 x4 x5 r0 r4 HB HBW
              have HK3:Hid (∀ q,Below wo3.heap.size wo3 q→Below w2.heap.size w2 q∧q.cell? ⟨b1,o1+k * 6+4,none⟩=some (.slice pm.a4 m.vers.length pm.c4)∧Mod (fun _=>OldB W.heap.size) q m pm):=Lib.hid fun q g=>⟨HB3.out.trans (g.mono HB3.out.size),(g.cell (p:=⟨b1,o1+k * 6+4,none⟩) (World.block_lt_of_cell? wo3 _ HL3.out)).trans HL3.out,HM3.out.kept fun _=>Kept.of_below g⟩
              clear HL3 HM3
              go_wp2_with fail
              go_loopw [10] (fun i wr=>∃ v:Nat,v≤m.vers.length∧i=.int .i64 v∧Below wo3.heap.size wo3 wr∧Hid (∀ j (h:j<m.vers.length),j<v→m.vers[j].sb≠x.nm)) (fun i _=>m.vers.length - (intOf i).toNat)
              case atStart=>exact ⟨0,by omega,rfl,Below.refl _ _,Lib.hid fun j _ h=>absurd h (Nat.not_lt_zero _)⟩
              case round =>
               obtain ⟨wo4,rfl⟩:∃ wo4:World,wo4=wr:=⟨_,rfl⟩
               obtain ⟨v,hv,rfl,hb,HZv⟩:=hrel
               obtain ⟨hb2,r4,hmo⟩:=HK3.out wo4 hb
               obtain ⟨x0,x1,x2,x3,x4,x5⟩:=HS.out wo4 hb2
               have HB4:=Lib.hid hb
               have HBW:=Lib.hid (HB2.out.trans (hb2.mono HB2.out.size))
               by_cases hvl:v<m.vers.length
               · have hvI:(v:Int)<(m.vers.length:Int):=by omega
                 have hv0:(0:Int)≤(v:Int):=by omega
                 obtain ⟨b4,o4,e4,hb4,dv,hdv,_,_,_,_,_,_,_,s7⟩:=hmo.vers.get hvl
                 rw [e4] at r4
                 obtain ⟨z,hz⟩:∃ z,m.vers[v].sb=z:=⟨_,rfl⟩
                 rw [hz] at s7
                 have HZ':=Lib.hid hz
                 clear hz hdv hmo hb hb2
                 cases hzq:(z.toList == x.nm.toList) with
                 | true =>
                  go_upto_region 19 with fail
                  go_quiet (fail)
                  have hdn:=below_drewN HBW.out nq
                  go_wp2_with ((with_reducible refine (HWk.out _ hdn).mono ?_);rintro e w9 ⟨rfl,hb9⟩)
                  go_ret
                  exact ⟨rfl,hdn.trans (hb9.mono hdn.size)⟩
                 | false =>
                  have HZ3:Hid (∀ j (h:j<m.vers.length),j<v+1→m.vers[j].sb≠x.nm):=Lib.hid fun j h hj=>by
                    by_cases e:j=v
                    · subst e;rw [HZ'.out];exact ne_txt hzq
                    · exact HZv.out j h (by omega)
                  go_upto_region 19 with fail
                  go_quiet (fail)
                  have HB5:=Lib.hid (below_drewN HB4.out nq)
                  go_wp2_with fail
                  go_roundw
                  case rel=>exact ⟨v+1,by omega,by go_num,HB5.out,HZ3⟩
                  case measure=>simp [intOf] <;> omega
               · obtain rfl:v=m.vers.length:=by omega
                 have HZ3:Hid (∀ j (h:j<l.length),j<k+1→l[j].nm≠x.nm∧∀ v ∈ l[j].vers,v.sb≠x.nm):=Lib.hid fun j h hj=>by
                   by_cases e:j=k
                   · subst e
                     rw [HM.out,HY.out]
                     refine ⟨HNe.out,fun u hu=>?_⟩
                     obtain ⟨i,hi,rfl⟩:=List.getElem_of_mem hu
                     exact HZv.out i hi hi
                   · exact HZ.out j h (by omega)
                 have HB6:=Lib.hid hb2
                 clear hmo hb hb2
                 go_wp2_with fail
                 go_roundw
                 case rel=>exact ⟨k+1,by omega,by go_num,HB6.out,HZ3⟩
                 case measure=>simp [intOf] <;> omega
           · obtain rfl:k=l.length:=by omega
             have HMore:Hid (More l x):=Lib.hid ⟨HRX.out,HNs.out,fun m hm=>by
               obtain ⟨j,hj,rfl⟩:=List.getElem_of_mem hm
               exact (HZ.out j hj hj).1,fun m hm=>by
               obtain ⟨j,hj,rfl⟩:=List.getElem_of_mem hm
               exact (HZ.out j hj hj).2⟩
             have HBW:=Lib.hid hbW
             have hLr:=HL.out.below hbW
             have hzw:w2.heap.size≤wo2.heap.size:=hb.size
             have hzW:W.heap.size≤wo2.heap.size:=hbW.size
             clear HZ hlt hk hb hbW
             obtain ⟨iM,hiM,zM0,zM1,zM2⟩:=info_parts info_Mdl
             go_upto_region 22 with fail
             go_upto_region 23 with (at_builtin;refine wpList_append_sl (ModE.moves (N:=W.heap.size)) _ rfl _ _ 22 rfl 31 iM _ 136 Tryd.underlying22 hiM zM0 zM1 zM2 rfl (by decide) (by decide) (a:=none) (c:=0) (l:=([]:List MdlD)) (lo:=wo2.heap.size) rfl rfl (.inl ⟨none,0,rfl,rfl⟩) (.inl ⟨none,rfl⟩) hLr (by simp only [List.length_nil];omega) (Nat.le_refl _) ?_;intro a3 c3 w6 ho6 hg6 hs6)
             rw [List.nil_append] at ho6 hs6
             have hb6:Below wo2.heap.size wo2 w6:=hg6.below (Nat.le_refl _) (Nat.le_refl _)
             have hs6':=hs6 (oldB_keep (hb6.mono hzW))
             have HB6:=Lib.hid (HB.out.trans (hb6.mono hzw))
             have HBW6:=Lib.hid (HB2.out.trans (HB6.out.mono HB2.out.size))
             obtain ⟨x0,x1,x2,x3,x4,x5⟩:=HS.out w6 HB6.out
             have hz6:wo2.heap.size≤w6.heap.size:=hb6.size
             have hk7:=oldB_keep (N:=W.heap.size) ((below_al1 w6 (.cells #[.string x.nm,.slice px.a1 x.vars.length px.c1,.slice px.a2 x.evs.length px.c2,.slice px.a3 x.regs.length px.c3,.slice px.a4 x.vers.length px.c4,.slice px.a5 x.trns.length px.c5] 31)).mono (Nat.le_trans hzW hz6))
             have HO7:=Lib.hid (ho6.below (below_al1 w6 (.cells #[.string x.nm,.slice px.a1 x.vars.length px.c1,.slice px.a2 x.evs.length px.c2,.slice px.a3 x.regs.length px.c3,.slice px.a4 x.vers.length px.c4,.slice px.a5 x.trns.length px.c5] 31)))
             have HS7:Hid (Sl (TB wo2.heap.size 31) 6 (ModE W.heap.size) (w6.alloc (.cells #[.string x.nm,.slice px.a1 x.vars.length px.c1,.slice px.a2 x.evs.length px.c2,.slice px.a3 x.regs.length px.c3,.slice px.a4 x.vers.length px.c4,.slice px.a5 x.trns.length px.c5] 31)) (.slice a3 l.length c3) l):=Lib.hid (Sl.kept ModE.monoQ hs6' (Kept.of_below (below_al1 w6 (.cells #[.string x.nm,.slice px.a1 x.vars.length px.c1,.slice px.a2 x.evs.length px.c2,.slice px.a3 x.regs.length px.c3,.slice px.a4 x.vers.length px.c4,.slice px.a5 x.trns.length px.c5] 31))) hk7)
             have HX7:Hid (Sl anyB 6 (ModE W.heap.size) (w6.alloc (.cells #[.string x.nm,.slice px.a1 x.vars.length px.c1,.slice px.a2 x.evs.length px.c2,.slice px.a3 x.regs.length px.c3,.slice px.a4 x.vers.length px.c4,.slice px.a5 x.trns.length px.c5] 31)) (.slice (some ⟨w6.heap.size,0,none⟩) [x].length 1) [x]):=Lib.hid (row_mdl (on_new w6 (.cells #[.string x.nm,.slice px.a1 x.vars.length px.c1,.slice px.a2 x.evs.length px.c2,.slice px.a3 x.regs.length px.c3,.slice px.a4 x.vers.length px.c4,.slice px.a5 x.trns.length px.c5] 31)) ((HXO.out w6 HBW6.out).kept fun _=>hk7))
             have hn7:l.length+1≤1000000:=by omega
             have hlo7:wo2.heap.size≤(w6.alloc (.cells #[.string x.nm,.slice px.a1 x.vars.length px.c1,.slice px.a2 x.evs.length px.c2,.slice px.a3 x.regs.length px.c3,.slice px.a4 x.vers.length px.c4,.slice px.a5 x.trns.length px.c5] 31)).heap.size:=Nat.le_trans hz6 (below_al1 w6 (.cells #[.string x.nm,.slice px.a1 x.vars.length px.c1,.slice px.a2 x.evs.length px.c2,.slice px.a3 x.regs.length px.c3,.slice px.a4 x.vers.length px.c4,.slice px.a5 x.trns.length px.c5] 31)).size
             clear ho6 hg6 hs6 hs6' hk7 hLr hb6
             go_upto_region 24 with (at_builtin;refine wpList_append_sl (ModE.moves (N:=W.heap.size)) _ rfl _ _ 22 rfl 31 iM _ 136 Tryd.underlying22 hiM zM0 zM1 zM2 rfl (by decide) (by decide) rfl rfl HS7.out HO7.out HX7.out hn7 hlo7 ?_;intro a4 c4 w7 ho7 hg7 hs7)
             have hb7:Below wo2.heap.size (w6.alloc (.cells #[.string x.nm,.slice px.a1 x.vars.length px.c1,.slice px.a2 x.evs.length px.c2,.slice px.a3 x.regs.length px.c3,.slice px.a4 x.vers.length px.c4,.slice px.a5 x.trns.length px.c5] 31)) w7:=hg7.below (Nat.le_refl _) hlo7
             have hs7':=hs7 (oldB_keep (hb7.mono hzW))
             have hB7:Below w2.heap.size w2 w7:=(HB6.out.trans ((below_al1 w6 (.cells #[.string x.nm,.slice px.a1 x.vars.length px.c1,.slice px.a2 x.evs.length px.c2,.slice px.a3 x.regs.length px.c3,.slice px.a4 x.vers.length px.c4,.slice px.a5 x.trns.length px.c5] 31)).mono (Nat.le_trans hzw hz6))).trans (hb7.mono hzw)
             have hW7:=HB2.out.trans (hB7.mono HB2.out.size)
             have hLV:LibV w7.heap.size w7 (.slice a4 (l.length+1) c4) (l ++ [x]):=by
               have:=Sl.weaken (Q':=OldB w7.heap.size) (E':=ModE w7.heap.size) hs7' (fun b hb _=>hb) fun b o y ⟨p,hm,h⟩=>⟨p,hm.weaken fun _ b hb _=>hb,h⟩
               rw [List.length_append] at this
               exact this
             obtain ⟨R1,hR1⟩:∃ R,(expM l).1=R:=⟨_,rfl⟩
             obtain ⟨k1,hk1⟩:∃ R,(expM l).2.1=R:=⟨_,rfl⟩
             obtain ⟨f1,hf1⟩:∃ R,(expM l).2.2=R:=⟨_,rfl⟩
             obtain ⟨R2,hR2⟩:∃ R,(expM (l ++ [x])).1=R:=⟨_,rfl⟩
             obtain ⟨k2,hk2⟩:∃ R,(expM (l ++ [x])).2.1=R:=⟨_,rfl⟩
             obtain ⟨f2,hf2⟩:∃ R,(expM (l ++ [x])).2.2=R:=⟨_,rfl⟩
             have he1:expM l=(R1,(k1,f1)):=by rw [← hR1,← hk1,← hf1]
             have he2:expM (l ++ [x])=(R2,(k2,f2)):=by rw [← hR2,← hk2,← hf2]
             have hPa:∀ m ∈ l ++ [x],MdlOk m∧Prt m:=fun m hm=>by
               rcases List.mem_append.1 hm with hm | hm
               · exact HPr.out m hm
               · rw [List.mem_singleton] at hm;subst hm;exact ⟨HOX.out,HPx.out⟩
             have HEa:=Lib.hid fun q (g:Below w7.heap.size w7 q)=>expandR HL.out (by omega) HPr.out HT.out he1 q (hW7.trans (g.mono hW7.size))
             have HEb:Hid (∀ q,Below w7.heap.size w7 q→Calls Tryd.prog 7 #[.slice a4 (l.length+1) c4] q (ExA R2 k2 f2 q)):=Lib.hid fun q g=>by
               have:=expandR (l:=l ++ [x]) (a:=a4) (c:=c4) (W:=w7) (by rw [List.length_append];exact hLV) (by rw [List.length_append];show l.length+1≤100;omega) hPa (HT.out.next hW7) he2 q g
               rw [List.length_append] at this
               exact this
             have HE1:=Lib.hid he1
             have HE2:=Lib.hid he2
             have HB7:=Lib.hid hB7
             clear hb7 hs7' hs7 ho7 hg7 hB7 hW7 hLV hR1 hk1 hf1 hR2 hk2 hf2 he1 he2 hPa HO7 HS7 HX7 x0 x1 x2 x3 x4 x5
             go_upto_region 26 with (first
               | ((with_reducible refine (HEa.out _ (Below.refl _ _)).mono ?_);rintro e w8 ⟨p8,rfl,o8,g8⟩;unfold mdV;have g8':=g8.trans ((below_al1 w8 (.cells #[.string R1.nm,.slice p8.a1 R1.vars.length p8.c1,.slice p8.a2 R1.evs.length p8.c2,.slice p8.a3 R1.regs.length p8.c3,.slice p8.a4 R1.vers.length p8.c4,.slice p8.a5 R1.trns.length p8.c5] 31)).mono g8.size))
               | ((with_reducible refine (HEb.out _ g8').mono ?_);rintro e w9 ⟨p9,rfl,o9,g9⟩;unfold mdV))
             have hb10:=(g8'.trans (g9.mono g8'.size)).trans ((below_al1 w9 (.cells #[.string R2.nm,.slice p9.a1 R2.vars.length p9.c1,.slice p9.a2 R2.evs.length p9.c2,.slice p9.a3 R2.regs.length p9.c3,.slice p9.a4 R2.vers.length p9.c4,.slice p9.a5 R2.trns.length p9.c5] 31)).mono (g8'.trans (g9.mono g8'.size)).size)
             have g9':=g9.trans ((below_al1 w9 (.cells #[.string R2.nm,.slice p9.a1 R2.vars.length p9.c1,.slice p9.a2 R2.evs.length p9.c2,.slice p9.a3 R2.regs.length p9.c3,.slice p9.a4 R2.vers.length p9.c4,.slice p9.a5 R2.trns.length p9.c5] 31)).mono g9.size)
             have on8:=(on_new w8 (.cells #[.string R1.nm,.slice p8.a1 R1.vars.length p8.c1,.slice p8.a2 R1.evs.length p8.c2,.slice p8.a3 R1.regs.length p8.c3,.slice p8.a4 R1.vers.length p8.c4,.slice p8.a5 R1.trns.length p8.c5] 31)).next g9'
             have o8':=(o8.below (below_al1 w8 (.cells #[.string R1.nm,.slice p8.a1 R1.vars.length p8.c1,.slice p8.a2 R1.evs.length p8.c2,.slice p8.a3 R1.regs.length p8.c3,.slice p8.a4 R1.vers.length p8.c4,.slice p8.a5 R1.trns.length p8.c5] 31))).below g9'
             have on9:=on_new w9 (.cells #[.string R2.nm,.slice p9.a1 R2.vars.length p9.c1,.slice p9.a2 R2.evs.length p9.c2,.slice p9.a3 R2.regs.length p9.c3,.slice p9.a4 R2.vers.length p9.c4,.slice p9.a5 R2.trns.length p9.c5] 31)
             have o9':=o9.below (below_al1 w9 (.cells #[.string R2.nm,.slice p9.a1 R2.vars.length p9.c1,.slice p9.a2 R2.evs.length p9.c2,.slice p9.a3 R2.regs.length p9.c3,.slice p9.a4 R2.vers.length p9.c4,.slice p9.a5 R2.trns.length p9.c5] 31))
             clear g8 g8' g9 g9' o8 o9 HEa HEb
             generalize w9.alloc (.cells #[.string R2.nm,.slice p9.a1 R2.vars.length p9.c1,.slice p9.a2 R2.evs.length p9.c2,.slice p9.a3 R2.regs.length p9.c3,.slice p9.a4 R2.vers.length p9.c4,.slice p9.a5 R2.trns.length p9.c5] 31)=W10 at *
             generalize w8.heap.size=N8 at *
             generalize w9.heap.size=N9 at *
             have hB10:=HB7.out.trans (hb10.mono HB7.out.size)
             have HW10:=Lib.hid (HB2.out.trans (hB10.mono HB2.out.size))
             obtain ⟨x0,x1,x2,x3,x4,x5⟩:=HS.out W10 hB10
             obtain ⟨y0,y1,y2,y3,y4,y5,_⟩:=box_at on8
             obtain ⟨z0,z1,z2,z3,z4,z5,_⟩:=box_at on9
             by_cases hl0:l.length=0
             · have hln:l=[]:=List.eq_nil_of_length_eq_zero hl0
               have h1:=HE1.out
               have h2:=HE2.out
               rw [expM_nil hl0] at h1
               rw [hln,List.nil_append,expM_one HRX.out HNs.out] at h2
               simp only [Prod.mk.injEq] at h1 h2
               obtain ⟨rfl,rfl,rfl⟩:=h1
               obtain ⟨rfl,rfl,rfl⟩:=h2
               have hl0I:((l.length:Int) == 0)=true:=by rw [hl0];rfl
               have hSm:=same_any x x p9 px W10 o9'.any (HX.out _ HW10.out) HOX.out
               rw [sameM_refl] at hSm
               unfold mdV at hSm
               have HSm:=Lib.hid hSm
               clear hSm hln on8 on9 o8' o9' hb10 hB10 hl0
               trace_state
               go_wp2_with (first
                 | ((with_reducible refine (HSm.out).mono ?_);rintro e w11 ⟨rfl,hb11⟩)
                 | ((with_reducible refine (HWk.out _ (HW10.out.trans (hb11.mono HW10.out.size))).mono ?_);rintro e w9 ⟨rfl,hb9⟩))
               go_ret
               exact ⟨rfl,(HW10.out.trans (hb11.mono HW10.out.size)).trans (hb9.mono (HW10.out.trans (hb11.mono HW10.out.size)).size)⟩
             · have hl0I:((l.length:Int) == 0)=false:=by rw [beq_eq_false_iff_ne];omega
               have h1:=HE1.out
               have h2:=HE2.out
               rw [expM_more HMore.out (by omega),h1] at h2
               simp only [Prod.mk.injEq] at h2
               obtain ⟨rfl,rfl,rfl⟩:=h2
               have hok1:MdlOk R1:=by have:=expM_ok2 HPr.out;rw [h1] at this;exact this
               have hSm:=same_any R1 R1 p8 p9 W10 o8'.any o9'.any hok1
               rw [sameM_refl] at hSm
               unfold mdV at hSm
               have HSm:=Lib.hid hSm
               clear hSm h1 hok1 on8 on9 o8' o9' hb10 hB10 hl0
               go_wp2_with (first
                 | ((with_reducible refine (HSm.out).mono ?_);rintro e w11 ⟨rfl,hb11⟩)
                 | ((with_reducible refine (HWk.out _ (HW10.out.trans (hb11.mono HW10.out.size))).mono ?_);rintro e w9 ⟨rfl,hb9⟩))
               go_ret
               exact ⟨rfl,(HW10.out.trans (hb11.mono HW10.out.size)).trans (hb9.mono (HW10.out.trans (hb11.mono HW10.out.size)).size)⟩
     · have heI:((e1:Int) != 0)=true:=by rw [bne_iff_ne];omega
       go_wp2_with (first
         | ((with_reducible refine (HRi.out).mono ?_);rintro e w3 ⟨rfl,hb3⟩)
         | ((with_reducible refine (HWk.out _ (HB2.out.trans (hb3.mono HB2.out.size))).mono ?_);rintro e w9 ⟨rfl,hb9⟩))
       go_ret
       exact ⟨rfl,(HB2.out.trans (hb3.mono HB2.out.size)).trans (hb9.mono (HB2.out.trans (hb3.mono HB2.out.size)).size)⟩
 · have d4:¬ ((l.length:Int)≤4):=by omega
   go_enter Tryd.func4,Tryd.ntmps4
   go_upto_region 1 with fail
   generalize W.alloc (.cells #[.string x.nm,.slice px.a1 x.vars.length px.c1,.slice px.a2 x.evs.length px.c2,.slice px.a3 x.regs.length px.c3,.slice px.a4 x.vers.length px.c4,.slice px.a5 x.trns.length px.c5] 31)=W1 at *
   have HB1:=Lib.hid hB1
   clear hon hB1
   go_wp2_with ((with_reducible refine (HF.out).mono ?_);rintro e w1 ⟨⟨b,rfl,hs⟩,hb1⟩;rcases b with _ | _)
   all_goals
     go_wp2_with ((with_reducible refine (HWk.out _ (HB1.out.trans (hb1.mono HB1.out.size))).mono ?_);rintro e w9 ⟨rfl,hb9⟩)
     go_ret
     exact ⟨rfl,(HB1.out.trans (hb1.mono HB1.out.size)).trans (hb9.mono (HB1.out.trans (hb1.mono HB1.out.size)).size)⟩
end Go.Proofs
