/- Walks: the document's 'expanded', at last; a library's first bad model, as the document finds it. -/
import Derived.Test.YtfladiadgkfebaaGreatDoorKEdK
import Derived.Test.YtfladiadgkfebaaGreatDoorKEmUV
import Derived.Test.YtfladiadgkfebaaGreatDoorKEdD
import Derived.Test.YtfladiadgkfebaaGreatDoorKEdC
namespace Go.Md
open Go.RowKit Go.Lx Go.Proofs
open Lib(hid)
set_option maxRecDepth 100000
set_option maxHeartbeats 0
set_option linter.unusedVariables false
theorem fndI_own {l:List MdlD} {i:Nat} (h:i<l.length):fndI l l[i].nm=(if ahd l i then fndI l l[i].nm else (i:Int))/\(ahd l i=true->fndI l l[i].nm<i):=by
 have hd:l=l.take i ++ l.drop i:=(List.take_append_drop i l).symm
 have hl:(l.take i).length=i:=by rw [List.length_take];omega
 have hf:fnd l l[i].nm=(match fnd (l.take i) l[i].nm with | some n=>some n | none=>some i):=by
   have e:fnd l l[i].nm=fndF l[i].nm 0 (l.take i ++ l.drop i):=by rw [<- hd];rfl
   rw [e,fndF_app,hl,List.drop_eq_getElem_cons h,fndF,if_pos (eqS_refl _),Nat.zero_add]
   rfl
 have ha:=ahd_is h
 cases hq:fnd (l.take i) l[i].nm with
 | none =>
  rw [hq] at ha hf
  simp only [Option.isSome_none] at ha
  refine ⟨?_,fun e=>by rw [ha] at e;cases e⟩
  rw [ha]
  unfold fndI
  rw [hf];rfl
 | some n =>
  rw [hq] at ha hf
  simp only [Option.isSome_some] at ha
  obtain ⟨hn,_⟩:=fnd_some hq
  rw [hl] at hn
  refine ⟨by rw [ha];rfl,fun _=>?_⟩
  unfold fndI
  rw [hf]
  show (n:Int)<(i:Int)
  omega
theorem ahd_lt {l:List MdlD} {i:Nat} (h:i<l.length) (ha:ahd l i=true):fndI l l[i].nm<(i:Int):=(fndI_own h).2 ha
theorem ahd_not {l:List MdlD} {i:Nat} (h:i<l.length) (ha:ahd l i=false):fndI l l[i].nm=(i:Int):=by
 have:=(fndI_own h).1
 rw [ha] at this
 exact this
theorem many_cut (l:List MdlD) (n:Nat):manyM (expF true l l.length n)=manyS (sizF l l.length n)/\(manyM (expF true l l.length n)=false->expF true l l.length n=expF false l l.length n/\Smal l n):=by
 have h:=rel_exp l l.length n
 cases hm:manyS (lens (expF false l l.length n)) with
 | false =>
  obtain ⟨e1,e2⟩:=h.few hm
  refine ⟨by rw [e2,manyM_lens,e1],fun _=>⟨e1,hm⟩⟩
 | true =>
  obtain ⟨e1,e2⟩:=h.many hm
  refine ⟨by rw [manyM_lens,e1,e2],fun h2=>?_⟩
  rw [manyM_lens,e1] at h2;cases h2
theorem wrg_many {l:List MdlD} (h1:∀ j,j<l.length->w1 l j=0) (h2:∀ j,j<l.length->w2 l j=0) (h3:∀ j,j<l.length->w3 l j=0) (h:manyM (expF true l l.length 0)=true):wrgM l=(0,3):=by
 rw [wrg4 h1 h2 h3,<- (many_cut l 0).1,h];rfl
theorem wrg_none {l:List MdlD} (h1:∀ j,j<l.length->w1 l j=0) (h2:∀ j,j<l.length->w2 l j=0) (h3:∀ j,j<l.length->w3 l j=0) (h:manyM (expF true l l.length 0)=false):wrgM l=(0,0):=by
 rw [wrg4 h1 h2 h3,<- (many_cut l 0).1,h];rfl
theorem addE_any (acc:List ByteArray) (e:ByteArray):addE acc e=if acc.any (fun y=>eqS y e) then acc else acc ++ [e]:=by
 have:acc.any (eqS e)=acc.any fun y=>eqS y e:=by
   congr 1
   funext y
   rw [Bool.eq_iff_iff,eqS_iff,eqS_iff]
   exact ⟨fun h=>h.symm,fun h=>h.symm⟩
 unfold addE
 rw [this]
end Go.Md
namespace Go.Proofs
open Go.RowKit Go.Lx Go.Md Go.Shelf Go.BigFrame Go.Rgi
open Lib(hid)
set_option maxRecDepth 100000
set_option maxHeartbeats 0
set_option linter.unusedVariables false
theorem rexpanded_any (N:Nat) (l:List MdlD) (a:Option Addr) (c:Nat) (hL:LibP l) (hll:l.length<=100) :
   ∀ (d n:Nat),Dpt l d n->n<l.length->∀ w,LibV N w (.slice a l.length c) l->N<=w.heap.size->Calls Tryz.prog 24 #[.slice a l.length c,.int .i64 n] w (ExQR N l n w)
 | 0,n,h=>h.elim
 | d+1,n,hd=>fun hn w hA hN=>rexpanded_step N l a c hL hll n hn (fun q hu wx hA' hN'=>rexpanded_any N l a c hL hll d q (hd q hu) hu.lt.2 wx hA' hN') w hA hN
end Go.Proofs

namespace Go.Proofs
open Go.RowKit Go.Lx Go.Md Go.Shelf Go.Maps Go.BigFrame Go.Rgi
open Lib(hid)
set_option maxRecDepth 100000
set_option maxHeartbeats 0
set_option linter.unusedVariables false
structure NmR (lo:Nat) (V:List VarD) (E:List ByteArray) (a1:Option Addr) (c1:Nat) (a2:Option Addr) (c2:Nat) (w0 w:World):Prop where
 v:Sl (TB lo 70) 2 VarE w (.slice a1 V.length c1) V
 ov:OwnV lo 70 2 w (.slice a1 V.length c1)
 e:Sl (TB lo 9) 1 TxtE w (.slice a2 E.length c2) E
 oe:OwnV lo 9 1 w (.slice a2 E.length c2)
 bel:Below lo w0 w
 hz:lo<=w.heap.size
theorem NmR.below {lo:Nat} {V:List VarD} {E:List ByteArray} {a1:Option Addr} {c1:Nat} {a2:Option Addr} {c2:Nat} {w0 w w':World} (h:NmR lo V E a1 c1 a2 c2 w0 w) (g:Below w.heap.size w w'):NmR lo V E a1 c1 a2 c2 w0 w' :=
 ⟨h.v.kept (VarE.mono (R:=anyB)) (Kept.of_below g) (Kept.of_below g),h.ov.below g,h.e.kept (TxtE.mono (R:=anyB)) (Kept.of_below g) (Kept.of_below g),h.oe.below g,h.bel.trans (g.mono h.hz),Nat.le_trans h.hz g.size⟩
theorem NmR.addV {lo:Nat} {V:List VarD} {E:List ByteArray} {a1:Option Addr} {c1:Nat} {a2:Option Addr} {c2:Nat} {w0 w w':World} (h:NmR lo V E a1 c1 a2 c2 w0 w) {a:Option Addr} {c:Nat} {r:List VarD} (g:GrT lo (· = 70) w w') (ho:OwnV lo 70 2 w' (.slice a (V ++ r).length c)) (hs:Sl (TB lo 70) 2 VarE w' (.slice a (V ++ r).length c) (V ++ r)):NmR lo (V ++ r) E a c a2 c2 w0 w' :=
 ⟨hs,ho,h.e.kept (TxtE.mono (R:=TB lo 9)) (g.keep (by decide)) (g.keep (by decide)),g.own h.oe,h.bel.trans (g.below (Nat.le_refl _) h.hz),Nat.le_trans h.hz g.size⟩
theorem NmR.addE {lo:Nat} {V:List VarD} {E:List ByteArray} {a1:Option Addr} {c1:Nat} {a2:Option Addr} {c2:Nat} {w0 w w':World} (h:NmR lo V E a1 c1 a2 c2 w0 w) {a:Option Addr} {c:Nat} {r:List ByteArray} (g:GrT lo (· = 9) w w') (ho:OwnV lo 9 1 w' (.slice a (E ++ r).length c)) (hs:Sl (TB lo 9) 1 TxtE w' (.slice a (E ++ r).length c) (E ++ r)):NmR lo V (E ++ r) a1 c1 a c w0 w' :=
 ⟨h.v.kept (VarE.mono (R:=TB lo 70)) (g.keep (by decide)) (g.keep (by decide)),g.own h.ov,hs,ho,h.bel.trans (g.below (Nat.le_refl _) h.hz),Nat.le_trans h.hz g.size⟩
theorem NmR.mono {lo lo':Nat} {V:List VarD} {E:List ByteArray} {a1:Option Addr} {c1:Nat} {a2:Option Addr} {c2:Nat} {w0 w00 w:World} (h:NmR lo V E a1 c1 a2 c2 w0 w) (hl:lo'<=lo) (g:Below lo' w00 w0):NmR lo' V E a1 c1 a2 c2 w00 w :=
 ⟨h.v.weaken (fun _ _ q=>TB.mono q hl) fun _ _ _ h=>h,h.ov.mono hl,h.e.weaken (fun _ _ q=>TB.mono q hl) fun _ _ _ h=>h,h.oe.mono hl,g.trans (h.bel.mono hl),Nat.le_trans hl h.hz⟩
def QE (lo lo' N:Nat):Nat->BP
 | 0=>TB lo 70 | 1=>TB lo 9 | n+2=>QR lo' N (n+2)
theorem QE.box {lo lo' N:Nat} {w w':World} {m:MdlD} {p:Ph} (h:Mod (QE lo lo' N) w m p) {H:Nat} (hw:AtB H w w') {cur:Array Value} {fr:Nat × Nat} (hH:w.heap[H]? = some (.cells cur 33 fr)) (hN:N<=H):Mod (QE lo lo' N) w' m p :=
 h.kept fun j=>by
   have ho:Kept (OldB N) w w':=OldB.kept (hw.below hN)
   match j with
   | 0=>exact hw.keptT hH (by decide)
   | 1=>exact hw.keptT hH (by decide)
   | 2=>exact hw.keptT hH (by decide)
   | 3=>exact hw.keptT hH (by decide)
   | 4=>exact hw.keptT hH (by decide)
   | n+5=>exact ho
def ExQE (l:List MdlD) (w:World) (e:Ending) (w':World):Prop:=∃ p,e=.returned (.tuple #[mdV (expM l).1 p,.int .i64 ((expM l).2.1:Nat),.int .i64 ((expM l).2.2:Nat)])/\Mod anyM w' (expM l).1 p/\Below w.heap.size w w'
theorem w3_at (l:List MdlD) (i:Nat):w3 l i=if rB l i i then 180 else 0:=rfl
theorem isU_zero {l:List MdlD} {k:Nat} (h:((k:Int) == 0)=true):isU l k=true:=by
 have:k=0:=by have:=eq_of_beq h;omega
 subst this;rfl
theorem isU_pos {l:List MdlD} {k:Nat} (h:((k:Int) == 0)=false):isU l k=rB l 0 k:=by
 have:k≠0:=by rw [beq_eq_false_iff_ne] at h;omega
 unfold isU
 rw [beq_eq_false_iff_ne.2 this,Bool.false_or]
theorem rexpand_any (N:Nat) (l:List MdlD) (a:Option Addr) (c:Nat) (w:World) (hl:LibV N w (.slice a l.length c) l) (hN:N<=w.heap.size) (hll:l.length<=100) (hok:∀ m ∈ l,MdlOk m/\Prt m) :
   Calls Tryz.prog 8 #[.slice a l.length c] w (ExQE l w):=by
 obtain ⟨iV,hiV,zV0,zV1,zV2⟩:=info_parts info_rVar
 obtain ⟨iS,hiS,zS0,zS1,zS2⟩:=info_parts info_Txt
 have HL:=hid fun wx (g:Below w.heap.size w wx)=>LibV.below hl (g.mono hN)
 have HOK:=hid hok
 clear hl hok
 go_enter Tryz.func8,Tryz.ntmps8
 go_upto_region 2 with fail
 have hO:=two_objs w zeroMR zeroMR
 unfold zeroMR at hO
 generalize ((w.alloc (.cells #[.string ⟨#[]⟩,.slice none 0 0,.slice none 0 0,.slice none 0 0,.slice none 0 0,.slice none 0 0] 33)).alloc (.cells #[.string ⟨#[]⟩,.slice none 0 0,.slice none 0 0,.slice none 0 0,.slice none 0 0,.slice none 0 0] 33))=W2 at *
 obtain ⟨hz0,hz1,hB2,hs2⟩:=hO
 have HZ:Hid (∀ wx,Below W2.heap.size W2 wx->wx.heap[w.heap.size]? = some zeroMR/\wx.heap[w.heap.size+1]? = some zeroMR/\Below w.heap.size w wx/\N<=wx.heap.size):=hid fun wx g=>⟨(g.block _ (by omega)).trans hz0,(g.block _ (by omega)).trans hz1,hB2.trans (g.mono (by omega)),by have:=g.size;omega⟩
 have HEnd:Hid (∀ wx,Below W2.heap.size W2 wx->∀ at' er:Nat,expM l=(D0,(at',er))->ExQE l w (.returned (.tuple #[mdV D0 P0,.int .i64 at',.int .i64 er])) ((((((wx.setCell ⟨w.heap.size,0,none⟩ (.string ⟨#[]⟩)).setCell ⟨w.heap.size,1,none⟩ (.slice none 0 0)).setCell ⟨w.heap.size,2,none⟩ (.slice none 0 0)).setCell ⟨w.heap.size,3,none⟩ (.slice none 0 0)).setCell ⟨w.heap.size,4,none⟩ (.slice none 0 0)).setCell ⟨w.heap.size,5,none⟩ (.slice none 0 0))):=hid fun wx g at' er he=>by
   obtain ⟨hz,_,hb,_⟩:=HZ.o wx g
   unfold zeroMR at hz
   obtain ⟨_,q2⟩:=box_six hz (.string ⟨#[]⟩) (.slice none 0 0) (.slice none 0 0) (.slice none 0 0) (.slice none 0 0) (.slice none 0 0)
   exact ⟨P0,by rw [he],by rw [he];exact mod0 _ _,hb.trans (q2.below (Nat.le_refl _))⟩
 have hz2:w.heap.size+1<W2.heap.size:=by omega
 clear hz0 hz1 hB2 hs2
 by_cases h0:l.length=0
 . have hE:=hid (expM_nil h0)
   have h0b:((l.length:Int) == 0)=true:=by rw [h0];rfl
   obtain ⟨hz0,hz1,_⟩:=HZ.o W2 (Below.refl _ _)
   obtain ⟨z0,z1,z2,z3,z4,z5,y0,y1,y2,y3,y4,y5⟩:=zero_boxR hz0
   obtain ⟨x0,x1,x2,x3,x4,x5,f0,f1,f2,f3,f4,f5⟩:=zero_boxR hz1
   clear h0
   go_wp2_with fail
   refine bodyPost_ret (v:=.tuple #[mdV D0 P0,.int .i64 0,.int .i64 2]) (by simp [results,Tryz.results8,go_sem,mdV,P0,z0,z1,z2,z3,z4,z5]) rfl (HEnd.o W2 (Below.refl _ _) 0 2 hE.o)
 . have hl0:0<l.length:=by omega
   have hl0I:((l.length:Int) == 0)=false:=by rw [beq_eq_false_iff_ne];omega
   go_wp2_with fail
   go_loopw [6] (fun i wr=>∃ k:Nat,k<=l.length/\i=.int .i64 k/\Below W2.heap.size W2 wr/\Hid (∀ j,j<k->w1 l j=0)) (fun i _=>l.length - (intOf i).toNat)
   case atStart=>exact ⟨0,by omega,rfl,Below.refl _ _,fun j hj=>absurd hj (Nat.not_lt_zero _)⟩
   case round =>
    obtain ⟨wo,rfl⟩:=ex1 wr
    obtain ⟨k,hk,rfl,hb,H1⟩:=hrel
    have HB:=hid hb
    obtain ⟨_,_,hbw,hnw⟩:=HZ.o wo hb
    have HBw:=hid hbw
    by_cases hlt:k<l.length
    . have hkI:(k:Int)<(l.length:Int):=by omega
      have hk0:(0:Int)<=(k:Int):=by omega
      obtain ⟨m,hm⟩:=ex2 (l[k])
      obtain ⟨b1,o1,e1,hb1,pm,hmo,r0,r1,r2,r3,r4,r5⟩:=(HL.o wo hbw).get hlt
      have HFn:=hid fun wx (g:Below w.heap.size w wx)=>rfind_any N l a c m.nm wx (HL.o wx g) (by omega)
      have hAt:=@ahd_lt l k hlt
      have hAn:=@ahd_not l k hlt
      have hW1:=w1_right hlt
      have hmk:=(HOK.o _ (List.getElem_mem hlt)).1
      rw [hm] at hmo r0 r1 r2 r3 r4 r5 hAt hAn hW1 hmk
      have HAt:=hid hAt
      have HAn:=hid hAn
      have HW1:=hid hW1
      have HRi:=hid (rright_any m pm wo hmo hmk)
      unfold mdV at HRi
      have hbz:b1<wo.heap.size:=hb1
      subst e1
      obtain ⟨er,her⟩:=ex2 ((riM m).2.2)
      rw [her] at HRi HW1
      clear hb hbw hmo hAt hAn hW1 hmk hm her
      by_cases he:er=0
      . subst he
        rw [if_neg (by simp)] at HW1
        go_upto_region 10 with ((with_reducible refine (HRi.o).mono ?_);rintro e w3 ⟨rfl,g3⟩;replace r0:=(g3.cell (p:=⟨b1,o1+k * 6,none⟩) hbz).trans r0)
        have hb3:=HB.o.trans (g3.mono HB.o.size)
        have hbw3:=HBw.o.trans (g3.mono HBw.o.size)
        have HF3:=hid (HFn.o w3 hbw3)
        have HB3:=hid hb3
        obtain ⟨hz0,hz1,_⟩:=HZ.o w3 hb3
        clear hb3 hbw3 g3 HRi HFn r1 r2 r3 r4 r5
        cases ha:ahd l k with
        | true =>
         rw [ha,if_pos rfl] at HW1
         have hfi:=HAt.o ha
         obtain ⟨z0,z1,z2,z3,z4,z5,y0,y1,y2,y3,y4,y5⟩:=zero_boxR hz0
         obtain ⟨x0,x1,x2,x3,x4,x5,f0,f1,f2,f3,f4,f5⟩:=zero_boxR hz1
         have hX:=hid (expM_bad h0 (by rw [wrg1 H1.o hlt (by rw [HW1.o];decide),HW1.o];exact (by decide:(180:Nat)≠0)))
         rw [wrg1 H1.o hlt (by rw [HW1.o];decide),HW1.o] at hX
         obtain ⟨fi,hfe⟩:=ex2 (fndI l m.nm)
         rw [hfe] at HF3 hfi
         clear hfe ha
         go_wp2_with ((with_reducible refine (HF3.o).mono ?_);rintro e w4 ⟨rfl,rfl⟩)
         refine bodyPost_ret (v:=.tuple #[mdV D0 P0,.int .i64 k,.int .i64 180]) (by simp [results,Tryz.results8,go_sem,mdV,P0,z0,z1,z2,z3,z4,z5]) rfl (HEnd.o _ HB3.o k 180 hX.o)
        | false =>
         rw [ha,if_neg (by decide)] at HW1
         have hfi:¬ fndI l m.nm<(k:Int):=by rw [HAn.o ha];omega
         obtain ⟨fi,hfe⟩:=ex2 (fndI l m.nm)
         rw [hfe] at HF3 hfi
         have H12:Hid (∀ j,j<k+1->w1 l j=0):=hid (step_zero H1.o HW1.o)
         clear hfe ha hz0 hz1
         go_wp2_with ((with_reducible refine (HF3.o).mono ?_);rintro e w4 ⟨rfl,rfl⟩)
         go_roundw
         case rel=>exact ⟨k+1,by omega,by go_num,HB3.o,H12⟩
         case measure=>simp [intOf] <;> omega
      . have heI:(er:Int)≠0:=by omega
        rw [if_pos he] at HW1
        have hX:=hid (expM_bad h0 (by rw [wrg1 H1.o hlt (by rw [HW1.o];exact he),HW1.o];exact he))
        rw [wrg1 H1.o hlt (by rw [HW1.o];exact he),HW1.o] at hX
        go_upto_region 8 with ((with_reducible refine (HRi.o).mono ?_);rintro e w3 ⟨rfl,g3⟩)
        have HB3:=hid (HB.o.trans (g3.mono HB.o.size))
        obtain ⟨hz0,hz1,_⟩:=HZ.o w3 HB3.o
        obtain ⟨z0,z1,z2,z3,z4,z5,y0,y1,y2,y3,y4,y5⟩:=zero_boxR hz0
        obtain ⟨x0,x1,x2,x3,x4,x5,f0,f1,f2,f3,f4,f5⟩:=zero_boxR hz1
        clear g3 HRi r0 r1 r2 r3 r4 r5
        go_wp2_with fail
        refine bodyPost_ret (v:=.tuple #[mdV D0 P0,.int .i64 k,.int .i64 er]) (by simp [results,Tryz.results8,go_sem,mdV,P0,z0,z1,z2,z3,z4,z5]) rfl (HEnd.o _ HB3.o k er hX.o)
    . obtain rfl:k=l.length:=by omega
      have HRt:=hid (w1_zero H1.o)
      clear hb hbw hk hlt
      go_wp2_with fail
      go_loopw [10] (fun i wr=>∃ k:Nat,k<=l.length/\i=.int .i64 k/\Below W2.heap.size W2 wr/\Hid (∀ j,j<k->w2 l j=0)) (fun i _=>l.length - (intOf i).toNat)
      case atStart=>exact ⟨0,by omega,rfl,HB.o,fun j hj=>absurd hj (Nat.not_lt_zero _)⟩
      case round =>
       clear HB HBw hnw
       obtain ⟨wo,rfl⟩:=ex1 wr
       obtain ⟨k,hk,rfl,hb,H2⟩:=hrel
       have HB:=hid hb
       obtain ⟨_,_,hbw,hnw⟩:=HZ.o wo hb
       have HBw:=hid hbw
       by_cases hlt:k<l.length
       . have hkI:(k:Int)<(l.length:Int):=by omega
         have hk0:(0:Int)<=(k:Int):=by omega
         obtain ⟨m,hm⟩:=ex2 (l[k])
         obtain ⟨b1,o1,e1,hb1,pm,hmo,r0,r1,r2,r3,r4,r5⟩:=(HL.o wo hbw).get hlt
         have hW2:=w2_at hlt
         have hvl:=right_len (HRt.o _ (List.getElem_mem hlt))
         rw [hm] at hmo r0 r1 r2 r3 r4 r5 hW2 hvl
         have HW2:=hid hW2
         have HTi:=hid (rtied_any N l a c m pm wo (HL.o wo hbw) hnw (by omega) hmo (by omega) (fun x hx=>by have:=(right_len (HRt.o x hx)).2.2.2.1;omega))
         unfold mdV at HTi
         subst e1
         clear hb hbw hmo hW2 hm hvl hb1
         cases ht:tiedM l m with
         | true =>
          rw [ht] at HTi HW2
          rw [if_pos rfl] at HW2
          have H22:Hid (∀ j,j<k+1->w2 l j=0):=hid (step_zero H2.o HW2.o)
          clear ht
          go_wp2_with ((with_reducible refine (HTi.o).mono ?_);rintro e w3 ⟨rfl,g3⟩)
          have HB3:=hid (HB.o.trans (g3.mono HB.o.size))
          go_roundw
          case rel=>exact ⟨k+1,by omega,by go_num,HB3.o,H22⟩
          case measure=>simp [intOf] <;> omega
         | false =>
          rw [ht] at HTi HW2
          rw [if_neg (by decide)] at HW2
          have hX:=hid (expM_bad h0 (by rw [wrg2 H1.o H2.o hlt (by rw [HW2.o];decide),HW2.o];exact (by decide:(180:Nat)≠0)))
          rw [wrg2 H1.o H2.o hlt (by rw [HW2.o];decide),HW2.o] at hX
          clear ht
          go_wp2_with ((with_reducible refine (HTi.o).mono ?_);rintro e w3 ⟨rfl,g3⟩;have HB3:=hid (HB.o.trans (g3.mono HB.o.size));obtain ⟨hz0,hz1,_⟩:=HZ.o w3 HB3.o;obtain ⟨z0,z1,z2,z3,z4,z5,y0,y1,y2,y3,y4,y5⟩:=zero_boxR hz0;obtain ⟨x0,x1,x2,x3,x4,x5,f0,f1,f2,f3,f4,f5⟩:=zero_boxR hz1;clear r0 r1 r2 r3 r4 r5)
          refine bodyPost_ret (v:=.tuple #[mdV D0 P0,.int .i64 k,.int .i64 180]) (by simp [results,Tryz.results8,go_sem,mdV,P0,z0,z1,z2,z3,z4,z5]) rfl (HEnd.o _ HB3.o k 180 hX.o)
       . obtain rfl:k=l.length:=by omega
         have hLR:LibR l:=⟨HRt.o,w2_zero H2.o⟩
         have HLR:=hid hLR
         clear hb hbw hk hlt hLR
         go_wp2_with fail
         go_loopw [11] (fun i wr=>∃ k:Nat,k<=l.length/\i=.int .i64 k/\Below W2.heap.size W2 wr/\Hid (∀ j,j<k->w3 l j=0)) (fun i _=>l.length - (intOf i).toNat)
         case atStart=>exact ⟨0,by omega,rfl,HB.o,fun j hj=>absurd hj (Nat.not_lt_zero _)⟩
         case round =>
          clear HB HBw hnw
          obtain ⟨wo,rfl⟩:=ex1 wr
          obtain ⟨k,hk,rfl,hb,H3⟩:=hrel
          have HB:=hid hb
          obtain ⟨_,_,hbw,hnw⟩:=HZ.o wo hb
          have HBw:=hid hbw
          have HUs:=hid fun (n:Nat) (hn:n<l.length) wx (g:Below w.heap.size w wx) (hx:N<=wx.heap.size)=>rused_any N l a c n wx (HL.o wx g) hx (by omega) hn (fun x hx=>by have:=(right_len (HRt.o x hx)).2.2.2.1;omega) (LibR.found HLR.o)
          by_cases hlt:k<l.length
          . have hkI:(k:Int)<(l.length:Int):=by omega
            have hk0:(0:Int)<=(k:Int):=by omega
            have HU:=hid (HUs.o k hlt wo hbw hnw)
            have HW3:=hid (w3_at l k)
            clear hb hbw HUs
            cases hr:rB l k k with
            | true =>
             rw [hr] at HW3
             rw [if_pos rfl] at HW3
             have hX:=hid (expM_bad h0 (by rw [wrg3 H1.o H2.o H3.o hlt (by rw [HW3.o];decide),HW3.o];exact (by decide:(180:Nat)≠0)))
             rw [wrg3 H1.o H2.o H3.o hlt (by rw [HW3.o];decide),HW3.o] at hX
             go_wp2_with ((with_reducible refine (HU.o).mono ?_);rintro e w3 ⟨rfl,hs3,g3⟩;have hq:=hs3.at' k hlt;rw [hr] at hq;clear hr;have HB3:=hid (HB.o.trans (g3.mono HB.o.size));obtain ⟨hz0,hz1,_⟩:=HZ.o w3 HB3.o;obtain ⟨z0,z1,z2,z3,z4,z5,y0,y1,y2,y3,y4,y5⟩:=zero_boxR hz0;obtain ⟨x0,x1,x2,x3,x4,x5,f0,f1,f2,f3,f4,f5⟩:=zero_boxR hz1)
             refine bodyPost_ret (v:=.tuple #[mdV D0 P0,.int .i64 k,.int .i64 180]) (by simp [results,Tryz.results8,go_sem,mdV,P0,z0,z1,z2,z3,z4,z5]) rfl (HEnd.o _ HB3.o k 180 hX.o)
            | false =>
             rw [hr] at HW3
             rw [if_neg (by decide)] at HW3
             have H32:Hid (∀ j,j<k+1->w3 l j=0):=hid (step_zero H3.o HW3.o)
             go_wp2_with ((with_reducible refine (HU.o).mono ?_);rintro e w3 ⟨rfl,hs3,g3⟩;have hq:=hs3.at' k hlt;rw [hr] at hq;clear hr)
             have HB3:=hid (HB.o.trans (g3.mono HB.o.size))
             go_roundw
             case rel=>exact ⟨k+1,by omega,by go_num,HB3.o,H32⟩
             case measure=>simp [intOf] <;> omega
          . obtain rfl:k=l.length:=by omega
            have hLP:LibP l:={ HLR.o with prt:=fun m hm=>(HOK.o m hm).2,no:=w3_zero H3.o }
            have HLP:=hid hLP
            have HEx:Hid (Calls Tryz.prog 24 #[.slice a l.length c,.int .i64 0] wo (ExQR N l 0 wo)):=hid (rexpanded_any N l a c hLP hll l.length 0 (dpt_all hLP.no hl0) hl0 wo (HL.o wo hbw) hnw)
            have HMc:=hid (many_cut l 0)
            have HWm:=hid fun h=>wrg_many H1.o H2.o H3.o h
            have HWn:=hid fun h=>wrg_none H1.o H2.o H3.o h
            have HU0:Hid (∀ wx,Below w.heap.size w wx->N<=wx.heap.size->Calls Tryz.prog 23 #[.slice a l.length c,.int .i64 0] wx fun e w'=>e=.returned (.slice (some ⟨wx.heap.size,0,none⟩) l.length l.length)/\SeenAt wx.heap.size l.length (rB l 0) w'/\Below wx.heap.size wx w'):=hid fun wx g hx=>HUs.o 0 hl0 wx g hx
            obtain ⟨ex,hex⟩:=ex2 (expF true l l.length 0)
            have HEq:=hid hex
            obtain ⟨LO,hLO⟩:=ex2 wo.heap.size
            have hHE:Hid (∀ e w',ExQR N l 0 wo e w'->∃ p,e=.returned (mdV ex p)/\OwnR LO N w' ex p/\Below wo.heap.size wo w'):=hid fun e w' h=>by unfold ExQR at h;rw [hex,hLO] at h;rw [hLO];exact h
            rw [hex] at HMc HWm HWn
            clear hb hbw hk hlt hLP H1 H2 H3 hex hLO
            go_upto_region 23 with ((with_reducible refine (HEx.o).mono ?_);rintro e w6 h6;obtain ⟨p6,rfl,ho6,hb6⟩:=hHE.o _ _ h6;clear h6;unfold mdV)
            have hX7:=World.alloc_heap_new w6 (mBoxR ex p6)
            have hB7:Below wo.heap.size wo (w6.alloc (mBoxR ex p6)):=hb6.trans ((below_al1 w6 _).mono hb6.size)
            have hO7:=ho6.below (below_al1 w6 (mBoxR ex p6))
            have hMb:=hb6.size
            have hMBl:W2.heap.size<=w6.heap.size:=Nat.le_trans HB.o.size hMb
            have hNM:N<=w6.heap.size:=Nat.le_trans hnw hMb
            have HMy:=hid (rmany_any ex p6 (w6.alloc (mBoxR ex p6)))
            unfold mBoxR at hX7 hB7 hO7 HMy
            unfold mdV at HMy
            have hz7:w6.heap.size<(w6.alloc (.cells #[.string ex.nm,.slice p6.a1 ex.vars.length p6.c1,.slice p6.a2 ex.evs.length p6.c2,.slice p6.a3 ex.regs.length p6.c3,.slice p6.a4 ex.vers.length p6.c4,.slice p6.a5 ex.trns.length p6.c5] 33)).heap.size:=by simp
            generalize w6.alloc (.cells #[.string ex.nm,.slice p6.a1 ex.vars.length p6.c1,.slice p6.a2 ex.evs.length p6.c2,.slice p6.a3 ex.regs.length p6.c3,.slice p6.a4 ex.vers.length p6.c4,.slice p6.a5 ex.trns.length p6.c5] 33)=W7 at *
            generalize w6.heap.size=MB at *
            have HX7:=hid hX7
            have HB7:=hid hB7
            have HO7:=hid hO7
            obtain ⟨b0,b1,b2,b3,b4,b5,_⟩:=mBoxR.box hX7
            clear hX7 hB7 hO7 hb6 ho6 HEx
            cases hmy:manyM ex with
            | true =>
             rw [hmy] at HMy
             have hX:=hid (expM_bad h0 (by rw [HWm.o hmy];decide))
             rw [HWm.o hmy] at hX
             clear hmy
             go_wp2_with ((with_reducible refine (HMy.o).mono ?_);rintro e w8 ⟨rfl,g8⟩;have HB8:=hid (HB.o.trans ((HB7.o.trans (g8.mono HB7.o.size)).mono HB.o.size));obtain ⟨hz0,hz1,_⟩:=HZ.o w8 HB8.o;obtain ⟨z0,z1,z2,z3,z4,z5,y0,y1,y2,y3,y4,y5⟩:=zero_boxR hz0;obtain ⟨x0,x1,x2,x3,x4,x5,f0,f1,f2,f3,f4,f5⟩:=zero_boxR hz1;clear b0 b1 b2 b3 b4 b5)
             refine bodyPost_ret (v:=.tuple #[mdV D0 P0,.int .i64 0,.int .i64 3]) (by simp [results,Tryz.results8,go_sem,mdV,P0,z0,z1,z2,z3,z4,z5]) rfl (HEnd.o _ HB8.o 0 3 hX.o)
            | false =>
             rw [hmy] at HMy
             have hmc:=HMc.o.2 hmy
             have hwn:=HWn.o hmy
             have HMd:=hid (made_prt HLP.o hl0 hmc.2)
             have HSm:Hid ({ ex with vars:=allV l,evs:=allE l }=madeM l):=hid (by unfold madeM;rw [<- hmc.1])
             have HWn0:=hid hwn
             clear hmc hwn hmy HMc HWm HWn
             go_upto_region 25 with ((with_reducible refine (HMy.o).mono ?_);rintro e w8 ⟨rfl,g8⟩)
             have hB8:=HB7.o.trans (g8.mono HB7.o.size)
             have HX8:=hid ((g8.block _ hz7).trans HX7.o)
             have HO8:=hid (HO7.o.below g8)
             have hz8:MB<w8.heap.size:=Nat.lt_of_lt_of_le hz7 g8.size
             have HB8:=hid (HB.o.trans (hB8.mono HB.o.size))
             have HU8:=hid (HU0.o w8 (HBw.o.trans (hB8.mono HBw.o.size)) (by have:=hB8.size;omega))
             have hz8b:=hB8.size
             clear hB8 g8 HX7 HO7 HMy hz7 HB7 HU0 HUs b0 b1 b2 b3 b4 b5
             go_upto_region 28 with ((with_reducible refine (HU8.o).mono ?_);rintro e w9 ⟨rfl,hs9,g9⟩)
             have HX9:=hid ((g9.block _ hz8).trans HX8.o)
             have HO9:=hid (HO8.o.below g9)
             have hz9:MB<w9.heap.size:=Nat.lt_of_lt_of_le hz8 g9.size
             have HB9:=hid (HB8.o.trans (g9.mono HB8.o.size))
             have hsz:=hs9.lt
             have HSn:=hid fun wx (g:Below w9.heap.size w9 wx)=>hs9.below g
             have hz9b:=g9.size
             have hnw9:N<=w9.heap.size:=by omega
             have HLw:=hid fun wx (g:Below w9.heap.size w9 wx)=>HL.o wx ((HZ.o w9 HB9.o).2.2.1.trans (g.mono (HZ.o w9 HB9.o).2.2.1.size))
             have HVL:=hid (vaK_len (l:=l) fun m hm=>by have:=(right_len (HRt.o m hm)).1;omega)
             have HEL:=hid (evK_len (l:=l) fun m hm=>by have:=(right_len (HRt.o m hm)).2.1;omega)
             have HVr:Hid (vaK l l.length=allV l/\evK l l.length=allE l):=hid ⟨rfl,rfl⟩
             have hN0:NmR w9.heap.size [] [] none 0 none 0 w9 w9:=⟨.inl ⟨_,_,rfl,rfl⟩,.inl ⟨_,rfl⟩,.inl ⟨_,_,rfl,rfl⟩,.inl ⟨_,rfl⟩,Below.refl _ _,Nat.le_refl _⟩
             have HN0:=hid hN0
             obtain ⟨UB,hUB⟩:=ex2 w8.heap.size
             rw [hUB] at hsz HSn |-
             clear hN0 hs9 g9 HX8 HO8 HB8 HU8 hUB
             go_wp2_with fail
             go_loopw [13,14,16] (fun v2 v3 i wr=>∃ k:Nat,k<=l.length/\i=.int .i64 k/\∃ a1 c1 a2 c2,v2=.slice a1 (vaK l k).length c1/\v3=.slice a2 (evK l k).length c2/\NmR w9.heap.size (vaK l k) (evK l k) a1 c1 a2 c2 w9 wr) (fun _ _ i _=>l.length - (intOf i).toNat)
             case atStart=>exact ⟨0,by omega,rfl,none,0,none,0,rfl,rfl,HN0.o⟩
             case round =>
              clear HN0
              obtain ⟨wo,rfl⟩:=ex1 wr
              obtain ⟨k,hk,rfl,a1,c1,a2,c2,rfl,rfl,hnm⟩:=hrel
              by_cases hlt:k<l.length
              . have hkI:(k:Int)<(l.length:Int):=by omega
                have hk0:(0:Int)<=(k:Int):=by omega
                obtain ⟨m,hm⟩:=ex2 (l[k])
                have hgd:l.getD k D0=m:=by rw [List.getD_eq_getElem?_getD,List.getElem?_eq_getElem hlt];exact hm
                obtain ⟨bM,oM,e1,hbM,pm,hmo,_⟩:=(HLw.o wo hnm.bel).get hlt
                have HM:=hid fun wx (g:Below w9.heap.size w9 wx)=>(HLw.o wx g).get hlt
                have hrl:=right_len (HRt.o _ (List.getElem_mem hlt))
                rw [hm] at hrl HM
                have HV1:=hid (vaK_of (l:=l) hgd)
                have HE1:=hid (evK_of (l:=l) hgd)
                have hvl:=HVL.o k hk
                have hel:=HEL.o k hk
                have HNm:=hid hnm
                have hRd:∀ wx,Below w9.heap.size w9 wx->wx.cell? ⟨UB,k,none⟩=some (.bool (rB l 0 k)):=fun wx g=>(HSn.o wx g).at' k hlt
                have HRd:=hid hRd
                have hzo:=hnm.hz
                obtain ⟨va,hva⟩:=ex2 (vaK l k)
                obtain ⟨ev,hev⟩:=ex2 (evK l k)
                rw [hva] at HNm hvl HV1 |-
                rw [hev] at HNm hel HE1 |-
                clear hnm hmo hm hgd hRd hva hev e1 hbM
                cases hD:((k:Int) == 0) with
                | true =>
                 rw [isU_zero hD] at HV1 HE1
                 rw [if_pos rfl] at HV1 HE1
                 go_wp2_with fail
                 go_loopw [13,17] (fun v2 i wr=>∃ j:Nat,j<=m.vars.length/\i=.int .i64 j/\∃ a1 c1,v2=.slice a1 ((m.vars.take j).foldl addV va).length c1/\NmR w9.heap.size ((m.vars.take j).foldl addV va) ev a1 c1 a2 c2 w9 wr) (fun _ i _=>m.vars.length - (intOf i).toNat)
                 case atStart=>exact ⟨0,by omega,rfl,a1,c1,rfl,HNm.o⟩
                 case round =>
                  clear HNm
                  obtain ⟨wp,rfl⟩:∃ wo:World,wo=wr:=⟨_,rfl⟩
                  obtain ⟨j,hj,rfl,a1,c1,rfl,hnm⟩:=hrel
                  obtain ⟨bM,oM,eM,hbM,pm,hmo,r0,r1,r2,r3,r4,r5⟩:=HM.o wp hnm.bel
                  subst eM
                  by_cases hlt2:j<m.vars.length
                  . have hjI:(j:Int)<(m.vars.length:Int):=by omega
                    have hj0:(0:Int)<=(j:Int):=by omega
                    obtain ⟨b2,o2,e2,hb2,s0,s1⟩:=hmo.vars.get hlt2
                    have hvj:=fold_len addV_len (m.vars.take j) va
                    have htk:(m.vars.take j).length<=64:=by rw [List.length_take];omega
                    have HTk:=hid (take_fold (f:=addV) (b:=va) hlt2)
                    obtain ⟨acc,hacc⟩:=ex2 ((m.vars.take j).foldl addV va)
                    rw [hacc] at hnm hvj HTk |-
                    obtain ⟨y,hy⟩:=ex2 (m.vars[j])
                    rw [hy] at s0 s1 HTk
                    have HNm:=hid hnm
                    have hz4:=hnm.hz
                    have HCo:=hid (rhasVar_any acc a1 c1 y.nm wp hnm.v (by omega))
                    clear hnm hy hacc hmo
                    rw [e2] at r1
                    cases hf:acc.any (fun y'=>eqS y'.nm y.nm) with
                    | true =>
                     rw [hf] at HCo
                     have hE:addV acc y=acc:=by unfold addV;rw [if_pos hf]
                     have HE9:=hid hE
                     clear hf hE
                     go_wp2_with ((with_reducible refine (HCo.o).mono ?_);rintro e w5 ⟨rfl,rfl⟩)
                     go_roundw
                     case rel=>exact ⟨j+1,by omega,by go_num,a1,c1,by rw [HTk.o,HE9.o],by rw [HTk.o,HE9.o];exact HNm.o⟩
                     case measure=>simp [intOf] <;> omega
                    | false =>
                     rw [hf] at HCo
                     have hE:addV acc y=acc ++ [y]:=by unfold addV;rw [if_neg (by rw [hf];decide)]
                     have HE9:=hid hE
                     clear hf hE
                     go_upto_region 35 with ((with_reducible refine (HCo.o).mono ?_);rintro e w5 ⟨rfl,rfl⟩)
                     go_wp2_with (at_builtin;refine wpList_append_sl VarE.moves _ rfl _ _ 27 rfl 70 iV _ 24 Tryz.underlying27 hiV zV0 zV1 zV2 rfl (by decide) (by decide) rfl rfl (HNm.o.below (below_al1 w5 _)).v (HNm.o.below (below_al1 w5 _)).ov (var_sl w5 y _) (by simp;omega) (by simp;omega) ?_;intro a6 c6 w6 ho6 hg6 hs6)
                     have HN6:=hid ((HNm.o.below (below_al1 w5 (.cells #[.string y.nm,.int .i64 y.ini] 70))).addV hg6 ho6 (hs6 trivial))
                     clear ho6 hg6 hs6
                     go_roundw
                     case rel=>exact ⟨j+1,by omega,by go_num,a6,c6,by rw [HTk.o,HE9.o,List.length_append];rfl,by rw [HTk.o,HE9.o];exact HN6.o⟩
                     case measure=>simp [intOf] <;> omega
                  . obtain rfl:j=m.vars.length:=by omega
                    rw [List.take_length] at *
                    have hvj:=fold_len addV_len m.vars va
                    obtain ⟨vb,hvb⟩:=ex2 (m.vars.foldl addV va)
                    rw [hvb] at hnm hvj HV1 |-
                    have HNm:=hid hnm
                    clear hnm hlt2 hvb hmo
                    go_wp2_with fail
                    go_loopw [14,18] (fun v3 i wr=>∃ j:Nat,j<=m.evs.length/\i=.int .i64 j/\∃ a2 c2,v3=.slice a2 ((m.evs.take j).foldl addE ev).length c2/\NmR w9.heap.size vb ((m.evs.take j).foldl addE ev) a1 c1 a2 c2 w9 wr) (fun _ i _=>m.evs.length - (intOf i).toNat)
                    case atStart=>exact ⟨0,by omega,rfl,a2,c2,rfl,HNm.o⟩
                    case round =>
                     clear HNm r0 r1 r2 r3 r4 r5 hbM
                     obtain ⟨wp,rfl⟩:∃ wo:World,wo=wr:=⟨_,rfl⟩
                     obtain ⟨j,hj,rfl,a2,c2,rfl,hnm⟩:=hrel
                     obtain ⟨bN,oN,eN,hbM,pm,hmo,r0,r1,r2,r3,r4,r5⟩:=HM.o wp hnm.bel
                     simp only [Option.some.injEq,Addr.mk.injEq] at eN
                     obtain ⟨rfl,rfl,_⟩:=eN
                     by_cases hlt2:j<m.evs.length
                     . have hjI:(j:Int)<(m.evs.length:Int):=by omega
                       have hj0:(0:Int)<=(j:Int):=by omega
                       obtain ⟨b2,o2,e2,hb2,s0⟩:=(SlS.sl.1 hmo.evs).get hlt2
                       have hej:=fold_len addE_len (m.evs.take j) ev
                       have htk:(m.evs.take j).length<=64:=by rw [List.length_take];omega
                       have HTk:=hid (take_fold (f:=addE) (b:=ev) hlt2)
                       obtain ⟨acc,hacc⟩:=ex2 ((m.evs.take j).foldl addE ev)
                       rw [hacc] at hnm hej HTk |-
                       obtain ⟨y,hy⟩:=ex2 (m.evs[j])
                       unfold TxtE at s0
                       rw [hy] at s0 HTk
                       rw [Nat.mul_one] at s0
                       have HNm:=hid hnm
                       have hz4:=hnm.hz
                       have HCo:=hid (rhasText_any acc a2 c2 y wp (SlS.sl.2 hnm.e) (by omega))
                       clear hnm hy hacc hmo
                       rw [e2] at r2
                       cases hf:acc.any (fun y'=>eqS y' y) with
                       | true =>
                        rw [hf] at HCo
                        have hE:addE acc y=acc:=by rw [addE_any,if_pos hf]
                        have HE9:=hid hE
                        clear hf hE
                        go_wp2_with ((with_reducible refine (HCo.o).mono ?_);rintro e w5 ⟨rfl,rfl⟩)
                        go_roundw
                        case rel=>exact ⟨j+1,by omega,by go_num,a2,c2,by rw [HTk.o,HE9.o],by rw [HTk.o,HE9.o];exact HNm.o⟩
                        case measure=>simp [intOf] <;> omega
                       | false =>
                        rw [hf] at HCo
                        have hE:addE acc y=acc ++ [y]:=by rw [addE_any,if_neg (by rw [hf];decide)]
                        have HE9:=hid hE
                        clear hf hE
                        go_upto_region 40 with ((with_reducible refine (HCo.o).mono ?_);rintro e w5 ⟨rfl,rfl⟩)
                        go_wp2_with (at_builtin;refine wpList_append_sl TxtE.moves _ rfl _ _ 28 rfl 9 iS _ 16 Tryz.underlying28 hiS zS0 zS1 zS2 rfl (by decide) (by decide) rfl rfl (HNm.o.below (below_al1 w5 _)).e (HNm.o.below (below_al1 w5 _)).oe (txt_sl w5 y _) (by simp;omega) (by simp;omega) ?_;intro a6 c6 w6 ho6 hg6 hs6)
                        have HN6:=hid ((HNm.o.below (below_al1 w5 (.cells #[.string y] 9))).addE hg6 ho6 (hs6 trivial))
                        clear ho6 hg6 hs6
                        go_roundw
                        case rel=>exact ⟨j+1,by omega,by go_num,a6,c6,by rw [HTk.o,HE9.o,List.length_append];rfl,by rw [HTk.o,HE9.o];exact HN6.o⟩
                        case measure=>simp [intOf] <;> omega
                     . obtain rfl:j=m.evs.length:=by omega
                       rw [List.take_length] at *
                       obtain ⟨eb,heb⟩:=ex2 (m.evs.foldl addE ev)
                       rw [heb] at hnm HE1 |-
                       have HNm:=hid hnm
                       clear hnm hlt2 heb hmo
                       go_wp2_with fail
                       go_roundw
                       case rel=>exact ⟨k+1,by omega,by go_num,a1,c1,a2,c2,by rw [HV1.o],by rw [HE1.o],by rw [HV1.o,HE1.o];exact HNm.o⟩
                       case measure=>simp [intOf] <;> omega
                | false =>
                 rw [isU_pos hD] at HV1 HE1
                 cases hr:rB l 0 k with
                 | true =>
                  rw [hr] at HV1 HE1
                  rw [if_pos rfl] at HV1 HE1
                  go_wp2_with fail
                  go_loopw [13,17] (fun v2 i wr=>∃ j:Nat,j<=m.vars.length/\i=.int .i64 j/\∃ a1 c1,v2=.slice a1 ((m.vars.take j).foldl addV va).length c1/\NmR w9.heap.size ((m.vars.take j).foldl addV va) ev a1 c1 a2 c2 w9 wr) (fun _ i _=>m.vars.length - (intOf i).toNat)
                  case atStart=>exact ⟨0,by omega,rfl,a1,c1,rfl,HNm.o⟩
                  case round =>
                   clear HNm
                   obtain ⟨wp,rfl⟩:∃ wo:World,wo=wr:=⟨_,rfl⟩
                   obtain ⟨j,hj,rfl,a1,c1,rfl,hnm⟩:=hrel
                   obtain ⟨bM,oM,eM,hbM,pm,hmo,r0,r1,r2,r3,r4,r5⟩:=HM.o wp hnm.bel
                   subst eM
                   have hrd:=HRd.o wp hnm.bel
                   rw [hr] at hrd
                   by_cases hlt2:j<m.vars.length
                   . have hjI:(j:Int)<(m.vars.length:Int):=by omega
                     have hj0:(0:Int)<=(j:Int):=by omega
                     obtain ⟨b2,o2,e2,hb2,s0,s1⟩:=hmo.vars.get hlt2
                     have hvj:=fold_len addV_len (m.vars.take j) va
                     have htk:(m.vars.take j).length<=64:=by rw [List.length_take];omega
                     have HTk:=hid (take_fold (f:=addV) (b:=va) hlt2)
                     obtain ⟨acc,hacc⟩:=ex2 ((m.vars.take j).foldl addV va)
                     rw [hacc] at hnm hvj HTk |-
                     obtain ⟨y,hy⟩:=ex2 (m.vars[j])
                     rw [hy] at s0 s1 HTk
                     have HNm:=hid hnm
                     have hz4:=hnm.hz
                     have HCo:=hid (rhasVar_any acc a1 c1 y.nm wp hnm.v (by omega))
                     clear hnm hy hacc hmo
                     rw [e2] at r1
                     cases hf:acc.any (fun y'=>eqS y'.nm y.nm) with
                     | true =>
                      rw [hf] at HCo
                      have hE:addV acc y=acc:=by unfold addV;rw [if_pos hf]
                      have HE9:=hid hE
                      clear hf hE
                      go_wp2_with ((with_reducible refine (HCo.o).mono ?_);rintro e w5 ⟨rfl,rfl⟩)
                      go_roundw
                      case rel=>exact ⟨j+1,by omega,by go_num,a1,c1,by rw [HTk.o,HE9.o],by rw [HTk.o,HE9.o];exact HNm.o⟩
                      case measure=>simp [intOf] <;> omega
                     | false =>
                      rw [hf] at HCo
                      have hE:addV acc y=acc ++ [y]:=by unfold addV;rw [if_neg (by rw [hf];decide)]
                      have HE9:=hid hE
                      clear hf hE
                      go_upto_region 35 with ((with_reducible refine (HCo.o).mono ?_);rintro e w5 ⟨rfl,rfl⟩)
                      go_wp2_with (at_builtin;refine wpList_append_sl VarE.moves _ rfl _ _ 27 rfl 70 iV _ 24 Tryz.underlying27 hiV zV0 zV1 zV2 rfl (by decide) (by decide) rfl rfl (HNm.o.below (below_al1 w5 _)).v (HNm.o.below (below_al1 w5 _)).ov (var_sl w5 y _) (by simp;omega) (by simp;omega) ?_;intro a6 c6 w6 ho6 hg6 hs6)
                      have HN6:=hid ((HNm.o.below (below_al1 w5 (.cells #[.string y.nm,.int .i64 y.ini] 70))).addV hg6 ho6 (hs6 trivial))
                      clear ho6 hg6 hs6
                      go_roundw
                      case rel=>exact ⟨j+1,by omega,by go_num,a6,c6,by rw [HTk.o,HE9.o,List.length_append];rfl,by rw [HTk.o,HE9.o];exact HN6.o⟩
                      case measure=>simp [intOf] <;> omega
                   . obtain rfl:j=m.vars.length:=by omega
                     rw [List.take_length] at *
                     have hvj:=fold_len addV_len m.vars va
                     obtain ⟨vb,hvb⟩:=ex2 (m.vars.foldl addV va)
                     rw [hvb] at hnm hvj HV1 |-
                     have HNm:=hid hnm
                     clear hnm hlt2 hvb hmo
                     go_wp2_with fail
                     go_loopw [14,18] (fun v3 i wr=>∃ j:Nat,j<=m.evs.length/\i=.int .i64 j/\∃ a2 c2,v3=.slice a2 ((m.evs.take j).foldl addE ev).length c2/\NmR w9.heap.size vb ((m.evs.take j).foldl addE ev) a1 c1 a2 c2 w9 wr) (fun _ i _=>m.evs.length - (intOf i).toNat)
                     case atStart=>exact ⟨0,by omega,rfl,a2,c2,rfl,HNm.o⟩
                     case round =>
                      clear HNm r0 r1 r2 r3 r4 r5 hbM hrd
                      obtain ⟨wp,rfl⟩:∃ wo:World,wo=wr:=⟨_,rfl⟩
                      obtain ⟨j,hj,rfl,a2,c2,rfl,hnm⟩:=hrel
                      obtain ⟨bN,oN,eN,hbM,pm,hmo,r0,r1,r2,r3,r4,r5⟩:=HM.o wp hnm.bel
                      simp only [Option.some.injEq,Addr.mk.injEq] at eN
                      obtain ⟨rfl,rfl,_⟩:=eN
                      have hrd:=HRd.o wp hnm.bel
                      rw [hr] at hrd
                      by_cases hlt2:j<m.evs.length
                      . have hjI:(j:Int)<(m.evs.length:Int):=by omega
                        have hj0:(0:Int)<=(j:Int):=by omega
                        obtain ⟨b2,o2,e2,hb2,s0⟩:=(SlS.sl.1 hmo.evs).get hlt2
                        have hej:=fold_len addE_len (m.evs.take j) ev
                        have htk:(m.evs.take j).length<=64:=by rw [List.length_take];omega
                        have HTk:=hid (take_fold (f:=addE) (b:=ev) hlt2)
                        obtain ⟨acc,hacc⟩:=ex2 ((m.evs.take j).foldl addE ev)
                        rw [hacc] at hnm hej HTk |-
                        obtain ⟨y,hy⟩:=ex2 (m.evs[j])
                        unfold TxtE at s0
                        rw [hy] at s0 HTk
                        rw [Nat.mul_one] at s0
                        have HNm:=hid hnm
                        have hz4:=hnm.hz
                        have HCo:=hid (rhasText_any acc a2 c2 y wp (SlS.sl.2 hnm.e) (by omega))
                        clear hnm hy hacc hmo
                        rw [e2] at r2
                        cases hf:acc.any (fun y'=>eqS y' y) with
                        | true =>
                         rw [hf] at HCo
                         have hE:addE acc y=acc:=by rw [addE_any,if_pos hf]
                         have HE9:=hid hE
                         clear hf hE
                         go_wp2_with ((with_reducible refine (HCo.o).mono ?_);rintro e w5 ⟨rfl,rfl⟩)
                         go_roundw
                         case rel=>exact ⟨j+1,by omega,by go_num,a2,c2,by rw [HTk.o,HE9.o],by rw [HTk.o,HE9.o];exact HNm.o⟩
                         case measure=>simp [intOf] <;> omega
                        | false =>
                         rw [hf] at HCo
                         have hE:addE acc y=acc ++ [y]:=by rw [addE_any,if_neg (by rw [hf];decide)]
                         have HE9:=hid hE
                         clear hf hE
                         go_upto_region 40 with ((with_reducible refine (HCo.o).mono ?_);rintro e w5 ⟨rfl,rfl⟩)
                         go_wp2_with (at_builtin;refine wpList_append_sl TxtE.moves _ rfl _ _ 28 rfl 9 iS _ 16 Tryz.underlying28 hiS zS0 zS1 zS2 rfl (by decide) (by decide) rfl rfl (HNm.o.below (below_al1 w5 _)).e (HNm.o.below (below_al1 w5 _)).oe (txt_sl w5 y _) (by simp;omega) (by simp;omega) ?_;intro a6 c6 w6 ho6 hg6 hs6)
                         have HN6:=hid ((HNm.o.below (below_al1 w5 (.cells #[.string y] 9))).addE hg6 ho6 (hs6 trivial))
                         clear ho6 hg6 hs6
                         go_roundw
                         case rel=>exact ⟨j+1,by omega,by go_num,a6,c6,by rw [HTk.o,HE9.o,List.length_append];rfl,by rw [HTk.o,HE9.o];exact HN6.o⟩
                         case measure=>simp [intOf] <;> omega
                      . obtain rfl:j=m.evs.length:=by omega
                        rw [List.take_length] at *
                        obtain ⟨eb,heb⟩:=ex2 (m.evs.foldl addE ev)
                        rw [heb] at hnm HE1 |-
                        have HNm:=hid hnm
                        clear hnm hlt2 heb hmo
                        go_wp2_with fail
                        go_roundw
                        case rel=>exact ⟨k+1,by omega,by go_num,a1,c1,a2,c2,by rw [HV1.o],by rw [HE1.o],by rw [HV1.o,HE1.o];exact HNm.o⟩
                        case measure=>simp [intOf] <;> omega
                 | false =>
                  rw [hr] at HV1 HE1
                  rw [if_neg (by decide)] at HV1 HE1
                  go_wp2_with fail
                  go_loopw [13,17] (fun v2 i wr=>i=.int .i64 (0:Nat)/\v2=.slice a1 va.length c1/\NmR w9.heap.size va ev a1 c1 a2 c2 w9 wr) (fun _ i _=>0)
                  case atStart=>exact ⟨rfl,rfl,HNm.o⟩
                  case round =>
                   clear HNm
                   obtain ⟨wp,rfl⟩:∃ wo:World,wo=wr:=⟨_,rfl⟩
                   obtain ⟨rfl,rfl,hnm⟩:=hrel
                   obtain ⟨bM,oM,eM,hbM,pm,hmo,r0,r1,r2,r3,r4,r5⟩:=HM.o wp hnm.bel
                   subst eM
                   have hrd:=HRd.o wp hnm.bel
                   rw [hr] at hrd
                   have HNm:=hid hnm
                   clear hnm hmo
                   cases hlt2:decide ((0:Int)<(m.vars.length:Int)) <;> simp only [decide_eq_true_eq,decide_eq_false_iff_not] at hlt2
                   all_goals
                     go_wp2_with fail
                     go_loopw [14,18] (fun v3 i wr=>i=.int .i64 (0:Nat)/\v3=.slice a2 ev.length c2/\NmR w9.heap.size va ev a1 c1 a2 c2 w9 wr) (fun _ i _=>0)
                     case atStart=>exact ⟨rfl,rfl,HNm.o⟩
                     case round =>
                      clear HNm r0 r1 r2 r3 r4 r5 hbM hrd
                      obtain ⟨wp,rfl⟩:∃ wo:World,wo=wr:=⟨_,rfl⟩
                      obtain ⟨rfl,rfl,hnm⟩:=hrel
                      obtain ⟨bN,oN,eN,hbM,pm,hmo,r0,r1,r2,r3,r4,r5⟩:=HM.o wp hnm.bel
                      simp only [Option.some.injEq,Addr.mk.injEq] at eN
                      obtain ⟨rfl,rfl,_⟩:=eN
                      have hrd:=HRd.o wp hnm.bel
                      rw [hr] at hrd
                      have HNm:=hid hnm
                      clear hnm hmo
                      cases hlt3:decide ((0:Int)<(m.evs.length:Int)) <;> simp only [decide_eq_true_eq,decide_eq_false_iff_not] at hlt3
                      all_goals
                        go_wp2_with fail
                        go_roundw
                        case rel=>exact ⟨k+1,by omega,by go_num,a1,c1,a2,c2,by rw [HV1.o],by rw [HE1.o],by rw [HV1.o,HE1.o];exact HNm.o⟩
                        case measure=>simp [intOf] <;> omega
              . obtain rfl:k=l.length:=by omega
                rw [HVr.o.1,HVr.o.2] at *
                obtain ⟨mm,hmm⟩:=ex2 (madeM l)
                rw [hmm] at HSm HMd
                obtain ⟨p8,hp8⟩:∃ p8:Ph,p8={ p6 with a1:=a1,c1:=c1,a2:=a2,c2:=c2 }:=⟨_,rfl⟩
                have hX8:=(hnm.bel.block _ hz9).trans HX9.o
                have hat:AtB MB wo ((wo.setCell ⟨MB,1,none⟩ (.slice a1 (allV l).length c1)).setCell ⟨MB,2,none⟩ (.slice a2 (allE l).length c2)):=((AtB.refl _ wo).set _ _).set _ _
                have hXa:((wo.setCell ⟨MB,1,none⟩ (.slice a1 (allV l).length c1)).setCell ⟨MB,2,none⟩ (.slice a2 (allE l).length c2)).heap[MB]? = some (mBoxR mm p8):=by
                  rw [<- HSm.o,hp8]
                  exact box_set (box_set hX8 1 _) 2 _
                have hoa:=(HO9.o.below hnm.bel).box hat hX8 notR.1 hNM
                have hMa:Mod (QE w9.heap.size LO N) ((wo.setCell ⟨MB,1,none⟩ (.slice a1 (allV l).length c1)).setCell ⟨MB,2,none⟩ (.slice a2 (allE l).length c2)) mm p8:=by
                  rw [<- HSm.o,hp8]
                  exact ⟨hnm.v.kept (VarE.mono (R:=TB w9.heap.size 70)) (hat.keptT hX8 (by decide)) (hat.keptT hX8 (by decide)),(SlS.sl.2 hnm.e).kept (hat.keptT hX8 (by decide)),hoa.mod.regs,hoa.mod.vers,hoa.mod.trns⟩
                have hBa:=(HB9.o.trans (hnm.bel.mono HB9.o.size)).trans (hat.below (B:=W2.heap.size) hMBl)
                obtain ⟨k1,k2,k3⟩:=HMd.o
                have hvl:mm.vars.length<=100000:=by
                  rw [<- HSm.o]
                  have:=HVL.o l.length (Nat.le_refl _)
                  show (allV l).length<=_
                  rw [show vaK l l.length=allV l from rfl] at this
                  omega
                have hel:mm.evs.length<=100000:=by
                  rw [<- HSm.o]
                  have:=HEL.o l.length (Nat.le_refl _)
                  show (allE l).length<=_
                  rw [show evK l l.length=allE l from rfl] at this
                  omega
                have hmo:=k1.ok k2 hvl hel (B:=512) (by omega) k3
                have HMm:=hid hmm
                obtain ⟨x0,x1,x2,x3,x4,x5,f0,f1,f2,f3,f4,f5⟩:=mBoxR.box hX8
                go_upto_region 43 with fail
                clear x0 x1 x2 x3 x4 x5 f0 f1 f2 f3 f4 f5
                generalize (wo.setCell ⟨MB,1,none⟩ (.slice a1 (allV l).length c1)).setCell ⟨MB,2,none⟩ (.slice a2 (allE l).length c2)=W9 at *
                have HRi:=hid (rright_any mm p8 W9 hMa hmo)
                unfold mdV at HRi
                have HBa:=hid hBa
                have HMa:=hid hMa
                have HXa:=hid hXa
                have hza:MB<W9.heap.size:=Array.getElem?_eq_some_iff.1 hXa |>.1
                clear hX8 hat hoa hMa hBa hXa k1 k2 k3 hvl hel hmo hmm hp8 hnm
                obtain ⟨x0,x1,x2,x3,x4,x5,_⟩:=mBoxR.box HXa.o
                obtain ⟨e3,he3⟩:=ex2 ((riM mm).2.2)
                rw [he3] at HRi
                have HE3:=hid he3
                clear he3
                by_cases h3:e3=0
                . subst h3
                  have hEx:=hid (expM_ok h0 (by rw [HWn0.o]) (by rw [HMm.o];exact HE3.o))
                  go_wp2_with ((with_reducible refine (HRi.o).mono ?_);rintro e w10 ⟨rfl,g10⟩;have HB10:=hid (HBa.o.trans (g10.mono HBa.o.size));obtain ⟨x0,x1,x2,x3,x4,x5,_⟩:=mBoxR.box ((g10.block _ hza).trans HXa.o);obtain ⟨hz0,_,hb10,_⟩:=HZ.o w10 HB10.o;obtain ⟨z0,z1,z2,z3,z4,z5,y0,y1,y2,y3,y4,y5⟩:=zero_boxR hz0)
                  obtain ⟨q1,q2⟩:=box_six hz0 (.string mm.nm) (.slice p8.a1 mm.vars.length p8.c1) (.slice p8.a2 mm.evs.length p8.c2) (.slice p8.a3 mm.regs.length p8.c3) (.slice p8.a4 mm.vers.length p8.c4) (.slice p8.a5 mm.trns.length p8.c5)
                  refine bodyPost_ret (v:=.tuple #[mdV mm p8,.int .i64 0,.int .i64 0]) (by simp [results,Tryz.results8,go_sem,mdV,z0,z1,z2,z3,z4,z5]) rfl ⟨p8,by rw [hEx.o,HMm.o];rfl,?_,hb10.trans (q2.below (Nat.le_refl _))⟩
                  rw [hEx.o,HMm.o]
                  exact (QE.box (HMa.o.below g10) q2 hz0 hN).any
                . have h3I:(e3:Int)≠0:=by omega
                  have hEx:=hid (expM_not h0 (by rw [HWn0.o]) (by rw [HMm.o,HE3.o];exact h3))
                  rw [HMm.o,HE3.o] at hEx
                  go_wp2_with ((with_reducible refine (HRi.o).mono ?_);rintro e w10 ⟨rfl,g10⟩;have HB10:=hid (HBa.o.trans (g10.mono HBa.o.size));obtain ⟨hz0,hz1,hb10,_⟩:=HZ.o w10 HB10.o;obtain ⟨z0,z1,z2,z3,z4,z5,y0,y1,y2,y3,y4,y5⟩:=zero_boxR hz0;obtain ⟨x0,x1,x2,x3,x4,x5,f0,f1,f2,f3,f4,f5⟩:=zero_boxR hz1)
                  refine bodyPost_ret (v:=.tuple #[mdV D0 P0,.int .i64 0,.int .i64 e3]) (by simp [results,Tryz.results8,go_sem,mdV,P0,z0,z1,z2,z3,z4,z5]) rfl (HEnd.o _ HB10.o 0 e3 hEx.o)
end Go.Proofs
