/- Walks: 'expanded' of the program's expand. -/
import Derived.Test.YtfladiadgkfebaaGreatDoorKEmLM
import Derived.Test.YtfladiadgkfebaaGreatDoorKMdK
namespace Go.Proofs
open Go.RowKit Go.Lx Go.Md Go.Shelf Go.BigFrame Go.Rgi
open Lib(hid)
set_option maxRecDepth 100000
set_option maxHeartbeats 0
set_option linter.unusedVariables false
theorem prt_sml {m:MdlD} (h:riM m=(0,0,0)) (hp:Prt m):Sml m:=by
 obtain ⟨h1,h2,h3,h4,h5⟩:=right_len h
 exact ⟨by omega,by omega,by omega,by omega,by omega,fun x hx=>(hp.verx x hx).2,fun x hx=>(hp.trnx x hx).2⟩
theorem copyP_below {m:MdlD} {w w':World} {e:Ending} (h:CopyP m w e w'):Below w.heap.size w w':=by
 obtain ⟨_,_,_,_,_,_,_,h⟩:=h;exact h
def ExpP (l:List MdlD) (n:Nat) (w:World) (e:Ending) (w':World):Prop:=∃ p,e=.returned (mdV (expF false l l.length n) p)/\OwnM w.heap.size w' (expF false l l.length n) p/\Below w.heap.size w w'
theorem expanded_uses (N:Nat) (l:List MdlD) (a:Option Addr) (c LB NB SB cnt:Nat) (hL:LibP l) (hll:l.length<=100000) (n:Nat) (hn:n<l.length) (hsm:Smal l n) (lo:Nat) (pm p:Ph) (OB LPB MB:Nat) (w:World) (hA:LibA N l a c LB NB SB cnt w) (hN:N<=lo) (hLB:LB<lo) (hNB:NB<lo) (hz:lo<=w.heap.size)
   (hX:ExS lo l[n] pm l[n] p OB LPB MB LB w) (hmm:Mod (fun _=>OldB N) w l[n] pm)
   (hR:∀ q,Use l n q->Smal l q->∀ wx,LibA N l a c LB NB SB cnt wx->Calls Tryz.prog 29 #[.pointer (some ⟨LB,0,none⟩),.int .i64 q] wx (ExpP l q wx)) :
   Calls Tryz.prog 51 #[.pointer (some ⟨LB,0,none⟩),.int .i64 n,.func (.func 52) #[] #[.pointer (some ⟨OB,0,none⟩),.pointer (some ⟨LPB,0,none⟩),.pointer (some ⟨MB,0,none⟩)]] w fun e w'=>e=.returned (.bool true)/\∃ p',ExS lo l[n] pm (expF false l l.length n) p' OB LPB MB LB w'/\Below lo w w':=by
 have hmem:=List.getElem_mem hn
 have h0:=hL.ri _ hmem
 obtain ⟨v1,v2,v3,v4,v5⟩:=right_len h0
 have hgd:l.getD n D0=l[n]:=by rw [List.getD_eq_getElem?_getD,List.getElem?_eq_getElem hn];rfl
 have hlib:∀ wr,Below lo w wr->LibA N l a c LB NB SB cnt wr:=fun wr g =>
   ⟨(g.cell (p:=⟨LB,0,none⟩) hLB).trans hA.c0,(g.cell (p:=⟨LB,1,none⟩) hLB).trans hA.c1,(g.cell (p:=⟨LB,2,none⟩) hLB).trans hA.c2,hA.lib.below (g.mono hN),hA.nam.keep (g.block _ hNB),by have:=g.size;omega,by have:=g.size;omega,by have:=g.size;omega⟩
 refine (usesEx_any N l a c LB NB SB cnt l[n] n OB LPB MB w (fun k wr=>∃ p,ExS lo l[n] pm (expK false l n k) p OB LPB MB LB wr/\Below lo w wr) (fun _=>False) hn rfl hll (by omega) (fun x hx=>((hL.prt _ hmem).verx x hx).1.sb) ?_ ?_ ?_ ?_ ?_).mono ?_
 . rintro k wr ⟨p',_,g⟩
   exact ⟨hlib wr g,g.mono hN⟩
 . rintro k wr wx ⟨p',h,g⟩ hx
   exact ⟨p',h.below hx,g.trans (hx.mono (by have:=g.size;omega))⟩
 . rintro k wr hk ⟨p',h,g⟩ hz0
   refine ⟨p',?_,g⟩
   rw [expK_skip hgd hk hz0];exact h
 . rintro k wr hk ⟨p',h,g⟩ hp
   obtain ⟨q,hq,hql,hpt⟩:=hL.use hmem hk hp
   rw [fndI_some hq]
   have hu:Use l n q:=⟨l[n],List.getElem?_eq_getElem hn,_,List.getElem_mem hk,hp,hq⟩
   have hkd':k<(l.getD n D0).vers.length:=by rw [hgd];exact hk
   have hsq:Smal l q:=hsm.use hL.no hn hkd' (by simpa only [hgd] using hp) (by simpa only [hgd] using hq)
   obtain ⟨s1,s2⟩:=expK_san (cut:=false) hL.toLibR hL.no hn k
   rw [hgd] at s2
   obtain ⟨t1,t2⟩:=exp_san (cut:=false) hL.toLibR (dpt_all hL.no hql) hql
   have hgq:l.getD q l[n]=l[q]:=by rw [List.getD_eq_getElem?_getD,List.getElem?_eq_getElem hql];rfl
   have hgq0:l.getD q D0=l[q]:=by rw [List.getD_eq_getElem?_getD,List.getElem?_eq_getElem hql];rfl
   have e1:=expK_put (cut:=false) hgd hk hp hq (.inl rfl)
   rw [hgq] at e1
   have hle:=hsm.at_ hL.no hn (Nat.succ_le_of_lt hkd')
   rw [show k.succ=k+1 from rfl,e1] at hle
   have hvq:=(right_len (hL.ri _ (List.getElem_mem hql))).2.2.2.1
   refine (expanded1_any N l a c LB NB SB cnt lo l[n] pm (expK false l n k) p' OB LPB MB k q (expF false l l.length q) wr (hlib wr g) hN hLB hNB (by have:=g.size;omega) h (hmm.keptN (g.mono hN)) hql hk s1 s2 t1 (by have:=t2.vl;rw [hgq0] at this;exact this) (hle.trans (by unfold LeS S512;dsimp only;omega)) (fun x hx=>by have:=hpt x hx;rw [hgq] at this;exact this) (fun v hv ho=>(point_at h0 hv (by rw [ho];omega)).2) (by omega) (by omega) hll (fun wx hA'=>hR q hu hsq wx hA')).mono ?_
   rintro e w' ⟨rfl,p2,h2,g2⟩
   exact ⟨true,rfl,fun _=>⟨p2,by rw [e1];exact h2,g.trans g2⟩,by simp⟩
 . exact ⟨p,by rw [expK_zero,hgd];exact hX,Below.refl _ _⟩
 . rintro e w' ⟨b,rfl,ht,hf⟩
   cases b with
   | true =>
    obtain ⟨p',h,g⟩:=ht rfl
    have e2:=expK_all (cut:=false) hL.no hn
    rw [hgd] at e2
    rw [e2] at h
    exact ⟨rfl,p',h,g⟩
   | false=>exact (hf rfl).elim
theorem expanded_any (N:Nat) (l:List MdlD) (a:Option Addr) (c LB NB SB cnt:Nat) (hL:LibP l) (hll:l.length<=100000) :
   ∀ (d n:Nat),Dpt l d n->n<l.length->Smal l n->∀ w,LibA N l a c LB NB SB cnt w->Calls Tryz.prog 29 #[.pointer (some ⟨LB,0,none⟩),.int .i64 n] w (ExpP l n w):=by
 intro d
 induction d with
 | zero=>intro n h;exact h.elim
 | succ d ih =>
  intro n hd hn hsm w hA
  obtain ⟨m,hm⟩:=ex2 (l[n])
  have hmem:=List.getElem_mem hn
  have hs:=prt_sml (hL.ri _ hmem) (hL.prt _ hmem)
  obtain ⟨b1,o1,e1,hb1,pm,hmo,r0,r1,r2,r3,r4,r5⟩:=hA.lib.get hn
  have HU:Hid (∀ lo p OB LPB MB wx,LibA N l a c LB NB SB cnt wx->N<=lo->LB<lo->NB<lo->lo<=wx.heap.size->ExS lo l[n] pm l[n] p OB LPB MB LB wx->Below N w wx->Calls Tryz.prog 51 #[.pointer (some ⟨LB,0,none⟩),.int .i64 n,.func (.func 52) #[] #[.pointer (some ⟨OB,0,none⟩),.pointer (some ⟨LPB,0,none⟩),.pointer (some ⟨MB,0,none⟩)]] wx fun e w'=>e=.returned (.bool true)/\∃ p',ExS lo l[n] pm (expF false l l.length n) p' OB LPB MB LB w'/\Below lo wx w'):=hid fun lo p OB LPB MB wx h1 h2 h3 h4 h5 h6 h7 =>
    expanded_uses N l a c LB NB SB cnt hL hll n hn hsm lo pm p OB LPB MB wx h1 h2 h3 h4 h5 h6 (hmo.keptN h7) fun q hu hq wx' hA'=>ih q (hd q hu) hu.lt.2 hq wx' hA'
  rw [hm] at hmo r0 r1 r2 r3 r4 r5 HU hs
  subst e1
  have c0:=hA.c0
  have hla:=hA.lb
  have hnb:=hA.nb
  have hnl:=hA.nl
  have hnI:(n:Int)<(l.length:Int):=by omega
  have hn0:(0:Int)<=(n:Int):=by omega
  have HA:=hid hA
  have HM:=hid hmo
  have HC:=hid fun wx (g:Below w.heap.size w wx)=>copyX_any m pm wx (hmo.keptN (g.mono hnl)) hs
  unfold mdV at HC
  clear hA hmo ih hd hsm hs hmem
  go_enter Tryz.func29,Tryz.ntmps29
  go_upto_region 2 with fail
  have hO:=objs3 w (.cells #[.pointer (some ⟨LB,0,none⟩)] 72) zeroM (mBox m pm)
  have hB3:Below w.heap.size w (((w.alloc (.cells #[.pointer (some ⟨LB,0,none⟩)] 72)).alloc zeroM).alloc (mBox m pm)):=((below_al2 w _ _).alloc (by simp;omega) _)
  have hz3:(((w.alloc (.cells #[.pointer (some ⟨LB,0,none⟩)] 72)).alloc zeroM).alloc (mBox m pm)).heap.size=w.heap.size+1+1+1:=by simp
  unfold zeroM mBox at hO hB3 hz3
  generalize (((w.alloc (.cells #[.pointer (some ⟨LB,0,none⟩)] 72)).alloc (.cells #[.string ⟨#[]⟩,.slice none 0 0,.slice none 0 0,.slice none 0 0,.slice none 0 0,.slice none 0 0] 42)).alloc (.cells #[.string m.nm,.slice pm.a1 m.vars.length pm.c1,.slice pm.a2 m.evs.length pm.c2,.slice pm.a3 m.regs.length pm.c3,.slice pm.a4 m.vers.length pm.c4,.slice pm.a5 m.trns.length pm.c5] 42))=W3 at *
  have HO:=hid hO
  have HB3:=hid hB3
  have HC3:=hid (HC.o W3 hB3)
  obtain ⟨x0,x1,x2,x3,x4,x5,_⟩:=box_at hO.2.2
  clear hO hB3 HC r0 r1 r2 r3 r4 r5 c0
  go_upto_region 3 with ((with_reducible refine (HC3.o).mono ?_);rintro e w5 ⟨hcp,p5,rfl,ho5⟩;have hb5:=copyP_below hcp;clear hcp;unfold mdV)
  have hB6:Below W3.heap.size W3 (w5.alloc (mBox m p5)):=hb5.trans ((below_al1 w5 _).mono hb5.size)
  have k6:∀ b o,b<W3.heap.size->W3.heap[b]? = some o->(w5.alloc (mBox m p5)).heap[b]? = some o:=fun b o hb h=>(hB6.block b hb).trans h
  have hX6:ExS W3.heap.size m pm m p5 w5.heap.size w.heap.size (w.heap.size+1+1) LB (w5.alloc (mBox m p5)) :=
    ⟨ho5.below (below_al1 w5 _),World.alloc_heap_new w5 _,k6 _ _ (by omega) HO.o.2.2,k6 _ _ (by omega) HO.o.1,by have:=hb5.size;omega,hb5.size⟩
  have hR6:=k6 _ _ (by omega) HO.o.2.1
  have HU6:=hid (HU.o W3.heap.size p5 w5.heap.size w.heap.size (w.heap.size+1+1) _ (HA.o.below (HB3.o.trans (hB6.mono (by omega)))) (by omega) (by omega) (by omega) hB6.size hX6 ((HB3.o.trans (hB6.mono (by omega))).mono hnl))
  have hlp:=cell_at (k6 _ _ (by omega) HO.o.1)
  unfold mBox at hlp hR6 HU6 hB6
  generalize w5.alloc (.cells #[.string m.nm,.slice p5.a1 m.vars.length p5.c1,.slice p5.a2 m.evs.length p5.c2,.slice p5.a3 m.regs.length p5.c3,.slice p5.a4 m.vers.length p5.c4,.slice p5.a5 m.trns.length p5.c5] 42)=W6 at *
  have HB6:=hid hB6
  have HR6:=hid hR6
  clear hB6 hR6 hX6 k6 HU HA hb5 ho5 x0 x1 x2 x3 x4 x5
  go_upto_region 4 with ((with_reducible refine (HU6.o).mono ?_);rintro e w7 ⟨rfl,p7,hX7,hb7⟩)
  obtain ⟨ex,hex⟩:=ex2 (expF false l l.length n)
  rw [hex] at hX7
  have hR7:w7.heap[w.heap.size+1]? = some zeroM:=(hb7.block _ (by omega)).trans HR6.o
  obtain ⟨x0,x1,x2,x3,x4,x5,_⟩:=mBox.box hX7.ob
  obtain ⟨z0,z1,z2,z3,z4,z5,y0,y1,y2,y3,y4,y5⟩:=zero_box hR7
  obtain ⟨q1,q2⟩:=box_six hR7 (.string ex.nm) (.slice p7.a1 ex.vars.length p7.c1) (.slice p7.a2 ex.evs.length p7.c2) (.slice p7.a3 ex.regs.length p7.c3) (.slice p7.a4 ex.vers.length p7.c4) (.slice p7.a5 ex.trns.length p7.c5)
  have HW:Hid (ExpP l n w (.returned (mdV ex p7)) ((((((w7.setCell ⟨w.heap.size+1,0,none⟩ (.string ex.nm)).setCell ⟨w.heap.size+1,1,none⟩ (.slice p7.a1 ex.vars.length p7.c1)).setCell ⟨w.heap.size+1,2,none⟩ (.slice p7.a2 ex.evs.length p7.c2)).setCell ⟨w.heap.size+1,3,none⟩ (.slice p7.a3 ex.regs.length p7.c3)).setCell ⟨w.heap.size+1,4,none⟩ (.slice p7.a4 ex.vers.length p7.c4)).setCell ⟨w.heap.size+1,5,none⟩ (.slice p7.a5 ex.trns.length p7.c5))):=hid (by
    unfold ExpP
    rw [hex]
    exact ⟨p7,rfl,(hX7.own.box q2 hR7).mono (by omega),(HB3.o.trans ((HB6.o.trans (hb7.mono (Nat.le_refl _))).mono (by omega))).trans (q2.below (by omega))⟩)
  clear hX7 hR7 q1 q2 hb7 HU6 HR6 HB6 HB3 HO
  go_wp2_with fail
  refine bodyPost_ret (v:=mdV ex p7) (by simp [results,Tryz.results29,go_sem,mdV,z0,z1,z2,z3,z4,z5]) rfl HW.o
end Go.Proofs
