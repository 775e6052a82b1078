/- Walks: the document's 'tied' (submachines). -/
import Derived.Test.YtfladiadgkfebaaGreatDoorKEdAB
namespace Go.Proofs
open Go.RowKit Go.Lx Go.Md Go.Shelf Go.BigFrame Go.Rgi
open Lib(hid)
set_option maxRecDepth 100000
set_option maxHeartbeats 0
set_option linter.unusedVariables false
theorem tiedV_none {l:List MdlD} {m:MdlD} {s:Nat} {x:VerD} (h:0<x.sb.size) (hf:fnd l x.sb=none):tiedV l m s x=false:=by
 unfold tiedV
 rw [hf,beq_eq_false_iff_ne.2 (by omega:x.sb.size≠0)];rfl
theorem tiedV_some {l:List MdlD} {m:MdlD} {s q:Nat} {x:VerD} (h:0<x.sb.size) (hf:fnd l x.sb=some q) (hq:q<l.length):tiedV l m s x=(ptsM m s).all fun p=>(bnd (verG m p) l[q]).isSome:=by
 unfold tiedV
 rw [hf,beq_eq_false_iff_ne.2 (by omega:x.sb.size≠0),Bool.false_or]
 have:l.getD q m=l[q]:=by rw [List.getD_eq_getElem?_getD,List.getElem?_eq_getElem hq];rfl
 show ((ptsM m s).all fun p=>(bnd (verG m p) (l.getD q m)).isSome)=_
 rw [this]
theorem tiedV_zero {l:List MdlD} {m:MdlD} {s:Nat} {x:VerD} (h:x.sb.size=0):tiedV l m s x=true:=by
 unfold tiedV
 rw [h];rfl
theorem rtied_any (N:Nat) (l:List MdlD) (a:Option Addr) (c:Nat) (m:MdlD) (pm:Ph) (w:World) (hl:LibV N w (.slice a l.length c) l) (hN:N<=w.heap.size) (hll:l.length<=100000) (hm:Mod (fun _=>OldB N) w m pm) (hv:m.vers.length<=10000) (hlv:∀ x ∈ l,x.vers.length<=10000) :
   Calls Tryz.prog 22 #[.slice a l.length c,mdV m pm] w fun e w'=>e=.returned (.bool (tiedM l m))/\Below w.heap.size w w':=by
 have HLb:=hid fun wx (g:Below w.heap.size w wx)=>LibV.below hl (g.mono hN)
 have HMo:=hid fun wx (g:Below w.heap.size w wx)=>hm.keptN (g.mono hN)
 have HT0:Hid (tiedM l m=tiedF l m 0 m.vers):=hid rfl
 have HD:=hid fun k (hk:k<m.vers.length)=>tiedF_drop (l:=l) (m:=m) hk
 have HE:Hid (tiedF l m m.vers.length (m.vers.drop m.vers.length)=true):=hid (by simp [tiedF])
 obtain ⟨R,hR⟩:=ex2 (tiedM l m)
 rw [hR] at HT0 |-
 unfold mdV
 clear hl hm hR
 go_enter Tryz.func22,Tryz.ntmps22
 go_upto_region 1 with fail
 have hB1:=below_al1 w (.cells #[.string m.nm,.slice pm.a1 m.vars.length pm.c1,.slice pm.a2 m.evs.length pm.c2,.slice pm.a3 m.regs.length pm.c3,.slice pm.a4 m.vers.length pm.c4,.slice pm.a5 m.trns.length pm.c5] 33)
 have hX1:=World.alloc_heap_new w (.cells #[.string m.nm,.slice pm.a1 m.vars.length pm.c1,.slice pm.a2 m.evs.length pm.c2,.slice pm.a3 m.regs.length pm.c3,.slice pm.a4 m.vers.length pm.c4,.slice pm.a5 m.trns.length pm.c5] 33)
 have hz1:w.heap.size<(w.alloc (.cells #[.string m.nm,.slice pm.a1 m.vars.length pm.c1,.slice pm.a2 m.evs.length pm.c2,.slice pm.a3 m.regs.length pm.c3,.slice pm.a4 m.vers.length pm.c4,.slice pm.a5 m.trns.length pm.c5] 33)).heap.size:=by simp
 generalize w.alloc (.cells #[.string m.nm,.slice pm.a1 m.vars.length pm.c1,.slice pm.a2 m.evs.length pm.c2,.slice pm.a3 m.regs.length pm.c3,.slice pm.a4 m.vers.length pm.c4,.slice pm.a5 m.trns.length pm.c5] 33)=W1 at *
 have HB1:=hid hB1
 have HX1:=hid fun W' (g:Below W1.heap.size W1 W')=>box_at ((g.block _ hz1).trans hX1)
 obtain ⟨x0,x1,x2,x3,x4,x5,_⟩:=HX1.o W1 (Below.refl _ _)
 clear hB1 hX1
 go_wp2_with fail
 go_loopw [5] (fun i wr=>∃ k:Nat,k<=m.vers.length/\i=.int .i64 k/\Below W1.heap.size W1 wr/\Hid (R=tiedF l m k (m.vers.drop k))) (fun i _=>m.vers.length - (intOf i).toNat)
 case atStart=>exact ⟨0,by omega,rfl,Below.refl _ _,by rw [List.drop_zero];exact HT0.o⟩
 case round =>
  clear x0 x1 x2 x3 x4 x5
  obtain ⟨wo,rfl⟩:=ex1 wr
  obtain ⟨k,hk,rfl,hb,HF⟩:=hrel
  obtain ⟨x0,x1,x2,x3,x4,x5,_⟩:=HX1.o wo hb
  have hbs:=hb.size
  have HBo:=hid hb
  have hbw:Below w.heap.size w wo:=HB1.o.trans (hb.mono (by omega))
  have HBw:=hid hbw
  by_cases hlt:k<m.vers.length
  . have hI:(k:Int)<(m.vers.length:Int):=by omega
    have hI0:(0:Int)<=(k:Int):=by omega
    have hmo:=HMo.o wo hbw
    obtain ⟨b2,o2,e2,hb2,dv,hdv,r0,r1,r2,r3,r4,r5,r6,r7⟩:=hmo.vers.get hlt
    have HDk:=hid (HD.o k hlt)
    obtain ⟨y,hy⟩:=ex2 (m.vers[k])
    rw [hy] at r7 HDk
    have hx4:=x4
    rw [e2] at x4
    have HPt:=hid fun wx (g:Below wo.heap.size wo wx)=>rpoints_any m pm k wx (hmo.below g) (by omega)
    unfold mdV at HPt
    rw [e2] at HPt
    have hz:y.sb.toList.isEmpty=true↔y.sb.size=0:=by rw [toList_eq',List.isEmpty_iff,<- List.length_eq_zero_iff];simp
    have HZ:=hid hz
    have HFi:=hid (rfind_any N l a c y.sb wo (HLb.o wo hbw) hll)
    have HE2:=hid e2
    have hsl:w.heap.size<wo.heap.size:=by omega
    clear hz hb hbw hmo hdv hy r0 r1 r2 r3 r4 r5 r6 e2 hx4
    cases hse:y.sb.toList.isEmpty with
    | true =>
     have HR1:Hid (R=tiedF l m (k+1) (m.vers.drop (k+1))):=hid (by rw [HF.o,HDk.o,tiedV_zero (HZ.o.1 hse),Bool.true_and])
     clear HPt HFi
     go_wp2_with fail
     go_roundw
     case rel=>exact ⟨k+1,by omega,by go_num,HBo.o,HR1⟩
     case measure=>simp [intOf] <;> omega
    | false =>
     have hpos:0<y.sb.size:=by
       rcases Nat.eq_zero_or_pos y.sb.size with h | h
       . rw [HZ.o.2 h] at hse;cases hse
       . exact h
     cases hf:fnd l y.sb with
     | none =>
      rw [fndI_none hf] at HFi
      have HR1:Hid (R=false):=hid (by rw [HF.o,HDk.o,tiedV_none hpos hf,Bool.false_and])
      clear HPt hf
      go_wp2_with ((with_reducible refine (HFi.o).mono ?_);rintro e w5 ⟨rfl,hw5⟩;subst w5)
      go_ret
      exact ⟨ret_bool HR1.o.symm,HBw.o⟩
     | some q =>
      rw [fndI_some hf] at HFi
      obtain ⟨hq,_⟩:=fnd_some hf
      have HTv:=hid (tiedV_some (m:=m) (s:=k) hpos hf hq)
      obtain ⟨pts,hpe⟩:=ex2 (ptsM m k)
      rw [hpe] at HPt HTv
      have HPe:=hid hpe
      have hpl:pts.length<=10000:=by rw [<- hpe];exact Nat.le_trans (pts_len m k) hv
      unfold RowP at HPt
      clear hf hpe
      go_upto_region 10 with (first | ((with_reducible refine (HFi.o).mono ?_);rintro e w5 ⟨rfl,hw5⟩;subst w5) | ((with_reducible refine (HPt.o _ (Below.refl _ _)).mono ?_);rintro e w6 ⟨v6,rfl,hown6,hb6⟩;obtain ⟨ap,cp,rfl⟩:=ownsRow_slice hown6))
      have HO6:Hid (w6.ownsRow wo.heap.size 3 1 (.slice ap pts.length cp) pts.length (nums pts)):=hid hown6
      have HB6:=hid hb6
      have hz6:wo.heap.size<=w6.heap.size:=hb6.size
      obtain ⟨n,hn⟩:=ex2 pts.length
      rw [hn] at HO6 hpl |-
      have HN:=hid hn
      clear hn hown6 hb6
      have HPM:Hid (∀ j (hj:j<pts.length),∃ v:Nat,∃ hv:v<m.vers.length,pts[j]=(v:Int)/\verG m pts[j]=m.vers[v]):=hid fun j hj=>by
        obtain ⟨v,hv,e,_,hg⟩:=pts_mem (m:=m) (s:=(k:Int)) (x:=pts[j]) (by rw [HPe.o];exact List.getElem_mem hj)
        exact ⟨v,hv,e,hg⟩
      have HLq:=hid (hlv _ (List.getElem_mem hq))
      go_wp2_with fail
      go_loopw [8] (fun i wr=>∃ j:Nat,j<=n/\i=.int .i64 j/\Below w6.heap.size w6 wr/\Hid (∀ i' (h:i'<pts.length),i'<j->(bnd (verG m pts[i']) l[q]).isSome=true)) (fun i _=>n - (intOf i).toNat)
      case atStart=>exact ⟨0,by omega,rfl,Below.refl _ _,fun i' _ h=>absurd h (Nat.not_lt_zero _)⟩
      case round =>
       clear x0 x1 x2 x3 x4 x5 HFi HPt
       obtain ⟨wp,rfl⟩:∃ wo:World,wo=wr:=⟨_,rfl⟩
       obtain ⟨j,hj,rfl,hbj,HJ⟩:=hrel
       have HBj:=hid hbj
       have hbjs:=hbj.size
       have HB2:Hid (Below W1.heap.size W1 wp):=hid (HBo.o.trans ((HB6.o.trans (hbj.mono hz6)).mono hbs))
       by_cases hlj:j<n
       . have hjI:(j:Int)<(n:Int):=by omega
         have hj0:(0:Int)<=(j:Int):=by omega
         have hjl:j<pts.length:=by have:=HN.o;omega
         obtain ⟨v,hvv,hpx,hgv⟩:=HPM.o j hjl
         obtain ⟨g,cg,hag,hgH,hgl⟩:=HO6.o.form (by omega)
         simp only [Value.slice.injEq] at hag
         obtain rfl:=hag.1
         clear hag
         have hcj:w6.cell? ⟨g,j,none⟩=some (.int .i64 v):=(HO6.o.cellAt j (by omega)).trans (by simp [nums,hjl,hpx])
         have hbw:Below w.heap.size w wp:=HB1.o.trans (HB2.o.mono (by omega))
         obtain ⟨b1,o1,ea,hb1,pq,hmq,r0,r1,r2,r3,r4,r5⟩:=(HLb.o wp hbw).get hq
         obtain ⟨b3,o3,e3,hb3,dv3,hdv3,s0,s1,s2,s3,s4,s5,s6,s7⟩:=(HMo.o wp hbw).vers.get hvv
         obtain ⟨da,dc,rfl⟩:=hdv3.len
         rw [HE2.o] at e3
         simp only [Option.some.injEq,Addr.mk.injEq] at e3
         obtain ⟨rfl,rfl,_⟩:=e3
         obtain ⟨_,_,_,_,xm4,_⟩:=HX1.o wp HB2.o
         rw [HE2.o] at xm4
         obtain ⟨z,hz⟩:=ex2 (m.vers[v])
         obtain ⟨x,hx⟩:=ex2 (l[q])
         rw [hz] at s0 s1 s2 s3 s4 s5 s6 s7 hgv
         rw [hx] at r0 r1 r2 r3 r4 r5 hmq
         have hxq:=HLq.o
         rw [hx] at hxq
         have HC:=hid fun (wx:World) (g:Below wp.heap.size wp wx)=>rbound_any z da dc x pq wx (hmq.below g) (by omega)
         have hNg:=bnd_neg z x
         obtain ⟨t,ht⟩:=ex2 (bndI z x)
         rw [ht] at HC hNg
         have HNg:=hid hNg
         clear ht hNg
         unfold verA mdV at HC
         subst ea
         have hsl2:w.heap.size<wp.heap.size:=by omega
         have hcj2:=(hbj.cell (p:=⟨g,j,none⟩) hgl).trans hcj
         have HS:Hid (∀ W',Below wp.heap.size wp W'->W'.cell? ⟨w.heap.size,4,none⟩=some (.slice (some ⟨b2,o2,none⟩) m.vers.length pm.c4)/\W'.cell? ⟨g,j,none⟩=some (.int .i64 v) /\
             (W'.cell? ⟨b2,o2+v * 8,none⟩=some (.string z.nm)/\W'.cell? ⟨b2,o2+v * 8+1,none⟩=some (.int .u8 z.kd)/\W'.cell? ⟨b2,o2+v * 8+2,none⟩=some (.int .i64 z.rg)/\W'.cell? ⟨b2,o2+v * 8+3,none⟩=some (.int .i64 z.ofv)/\W'.cell? ⟨b2,o2+v * 8+4,none⟩=some (.string z.en)/\W'.cell? ⟨b2,o2+v * 8+5,none⟩=some (.string z.ex)/\W'.cell? ⟨b2,o2+v * 8+6,none⟩=some (.slice da z.df.length dc)/\W'.cell? ⟨b2,o2+v * 8+7,none⟩=some (.string z.sb)) /\
             (W'.cell? ⟨b1,o1+q * 6,none⟩=some (.string x.nm)/\W'.cell? ⟨b1,o1+q * 6+1,none⟩=some (.slice pq.a1 x.vars.length pq.c1)/\W'.cell? ⟨b1,o1+q * 6+2,none⟩=some (.slice pq.a2 x.evs.length pq.c2)/\W'.cell? ⟨b1,o1+q * 6+3,none⟩=some (.slice pq.a3 x.regs.length pq.c3)/\W'.cell? ⟨b1,o1+q * 6+4,none⟩=some (.slice pq.a4 x.vers.length pq.c4)/\W'.cell? ⟨b1,o1+q * 6+5,none⟩=some (.slice pq.a5 x.trns.length pq.c5))):=hid fun W' gg =>
           have k:∀ b o u,b<wp.heap.size->wp.cell? ⟨b,o,none⟩=some u->W'.cell? ⟨b,o,none⟩=some u:=fun b o u hb h=>(gg.cell (p:=⟨b,o,none⟩) hb).trans h
           ⟨k _ _ _ (World.block_lt_of_cell? wp _ xm4) xm4,k _ _ _ (World.block_lt_of_cell? wp _ hcj2) hcj2,⟨k _ _ _ hb3 s0,k _ _ _ hb3 s1,k _ _ _ hb3 s2,k _ _ _ hb3 s3,k _ _ _ hb3 s4,k _ _ _ hb3 s5,k _ _ _ hb3 s6,k _ _ _ hb3 s7⟩,⟨k _ _ _ hb1 r0,k _ _ _ hb1 r1,k _ _ _ hb1 r2,k _ _ _ hb1 r3,k _ _ _ hb1 r4,k _ _ _ hb1 r5⟩⟩
         have hvI:(v:Int)<(m.vers.length:Int):=by omega
         have hv0:(0:Int)<=(v:Int):=by omega
         have hqI:(q:Int)<(l.length:Int):=by omega
         have hq0:(0:Int)<=(q:Int):=by omega
         have HG9:Hid (verG m pts[j]=z):=hid hgv
         have HX9:Hid (l[q]=x):=hid hx
         have hB0:Below wp.heap.size wp wp:=Below.refl _ _
         have HBw2:=hid hbw
         clear hbj hbw hmq hdv3 xm4 hz hx hgv hpx hcj hcj2 r0 r1 r2 r3 r4 r5 s0 s1 s2 s3 s4 s5 s6 s7
         have HTr:Hid (t<0->R=false):=hid fun h=>by
           have e:(bnd z x).isSome=false:=by
             have:=HNg.o
             rw [decide_eq_true h] at this
             cases hb:(bnd z x).isSome with
             | false=>rfl
             | true=>rw [hb] at this;cases this
           have hall:(pts.all fun p=>(bnd (verG m p) l[q]).isSome)=false:=by
             rw [List.all_eq_false]
             exact ⟨_,List.getElem_mem hjl,by rw [HG9.o,HX9.o,e];decide⟩
           rw [HF.o,HDk.o,HTv.o,hall,Bool.false_and]
         have HTn:Hid (¬ t<0->∀ i' (h:i'<pts.length),i'<j+1->(bnd (verG m pts[i']) l[q]).isSome=true):=hid fun h i' hi' hij=>by
           by_cases e:i'=j
           . subst e
             have:=HNg.o
             rw [decide_eq_false h] at this
             rw [HG9.o,HX9.o]
             cases hb:(bnd z x).isSome with
             | true=>rfl
             | false=>rw [hb] at this;cases this
           . exact HJ.o i' hi' (by omega)
         go_upto_region 12 with fail
         refine wp_region_any (by kernel_rfl) ?_
         change wpAny _ _ _ _ _ _ _ (World.drew _)
         refine hld HS.o (hB0.drew) (fun hHeld=>?_)
         refine tk 0 rfl ?_
         refine tk 1 rfl ?_
         refine tk 2 rfl ?_
         refine tk 3 rfl ?_
         refine tk 4 rfl ?_
         refine tk 5 rfl ?_
         refine tk 6 rfl ?_
         refine tk 7 rfl ?_
         refine tk 8 rfl ?_
         refine tk 9 rfl ?_
         refine tk 10 rfl ?_
         refine tk 11 rfl ?_
         refine rd1 12 (fun K hK=>?_)
         (go_simp;(with_reducible refine (HC.o _ hB0.drew).mono ?_);rintro e w9 ⟨rfl,g9⟩;have hB9:Below wp.heap.size wp w9:=hB0.drew.trans (g9.mono hB0.drew.size);go_wp2_with fail)
         refine nx hK ?_ (fun hH1=>?_)
         (first | exact HS.o _ hB0.drew | exact HS.o _ (by assumption))
         clear hK K hHeld
         refine tk 13 rfl ?_
         refine dn ?_
         rotate_left
         all_goals
           by_cases hneg:t<0
           . have HR1:Hid (R=false):=hid (HTr.o hneg)
             go_wp2_with fail
             go_ret
             exact ⟨ret_bool HR1.o.symm,HBw2.o.trans (hB9.mono (by omega))⟩
           . have HR1:=hid (HTn.o (by first | exact hneg | omega))
             go_wp2_with fail
             go_roundw
             case rel=>exact ⟨j+1,by omega,by go_num,HBj.o.trans (hB9.mono (by omega)),HR1⟩
             case measure=>simp [intOf] <;> omega
       . obtain rfl:j=n:=by omega
         have hall:(pts.all fun p=>(bnd (verG m p) l[q]).isSome)=true:=by
           rw [List.all_eq_true]
           intro p hp
           obtain ⟨i',hi',rfl⟩:=List.getElem_of_mem hp
           exact HJ.o i' hi' (by have:=HN.o;omega)
         have HR1:Hid (R=tiedF l m (k+1) (m.vers.drop (k+1))):=hid (by rw [HF.o,HDk.o,HTv.o,hall,Bool.true_and])
         clear hall
         go_wp2_with fail
         go_roundw
         case rel=>exact ⟨k+1,by omega,by go_num,HB2.o,HR1⟩
         case measure=>simp [intOf] <;> omega
  . obtain rfl:k=m.vers.length:=by omega
    have HR1:Hid (R=true):=hid (by rw [HF.o,HE.o])
    go_wp2_with fail
    go_ret
    exact ⟨ret_bool HR1.o.symm,HBw.o⟩
end Go.Proofs
