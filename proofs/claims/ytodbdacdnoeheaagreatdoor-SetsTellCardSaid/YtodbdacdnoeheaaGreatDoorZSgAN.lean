/- Walks: a vertex is entered. -/
import Derived.Test.YtodbdacdnoeheaaGreatDoorZSeAD
import Derived.Lib.SliceRun
namespace Go.Proofs
open Go.RowKit Go.Lx Go.Md Go.Shelf Go.BigFrame Go.Rgi
set_option linter.unusedVariables false
def EnterP (m:MdlD) (la ll:List Int) (v:Int) (w:World) (e:Ending) (w':World):Prop:=Below w.heap.size w w' ∧
 ((mayE m la ll v≠0∧e=.returned (.tuple #[.agg #[.slice none 0 0,.slice none 0 0],.int .i64 (mayE m la ll v:Int)])) ∨
  (mayE m la ll v=0∧enterOk m la v=false∧e=.returned (.tuple #[.agg #[.slice none 0 0,.slice none 0 0],.int .i64 4])) ∨
  (mayE m la ll v=0∧enterOk m la v=true∧∃ v1 v2,e=.returned (.tuple #[.agg #[v1,v2],.int .i64 0])∧w'.ownsRow w.heap.size 3 1 v1 la.length (nums (la.set (rgA m v).toNat v))∧w'.ownsRow w.heap.size 3 1 v2 ll.length (nums ll)∧∀ g,v1.ownBlock=some g→v2.ownBlock≠some g))
theorem EnterP.bad {m:MdlD} {la ll:List Int} {v:Int} {w w':World} {E:Nat} (hE:mayE m la ll v=E) (hn:E≠0) (hb:Below w.heap.size w w'):EnterP m la ll v w (.returned (.tuple #[.agg #[.slice none 0 0,.slice none 0 0],.int .i64 (E:Int)])) w':=by
 subst hE;exact ⟨hb,.inl ⟨hn,rfl⟩⟩
theorem EnterP.no {m:MdlD} {la ll:List Int} {v:Int} {w w':World} (hE:mayE m la ll v=0) (hn:enterOk m la v=false) (hb:Below w.heap.size w w'):EnterP m la ll v w (.returned (.tuple #[.agg #[.slice none 0 0,.slice none 0 0],.int .i64 4])) w' :=
 ⟨hb,.inr (.inl ⟨hE,hn,rfl⟩)⟩
theorem EnterP.yes {m:MdlD} {la ll:List Int} {v:Int} {w w':World} {v1 v2:Value} {r:Nat} (hE:mayE m la ll v=0) (hn:enterOk m la v=true) (hr:(rgA m v).toNat=r) (hb:Below w.heap.size w w') (o1:w'.ownsRow w.heap.size 3 1 v1 la.length ((nums la).set r (.int .i64 v))) (o2:w'.ownsRow w.heap.size 3 1 v2 ll.length (nums ll)) (hd:∀ g,v1.ownBlock=some g→v2.ownBlock≠some g) :
   EnterP m la ll v w (.returned (.tuple #[.agg #[v1,v2],.int .i64 0])) w':=by
 refine ⟨hb,.inr (.inr ⟨hE,hn,v1,v2,rfl,?_,o2,hd⟩)⟩
 rw [hr,show nums (la.set r v)=(nums la).set r (.int .i64 v) by simp [nums,List.map_set]];exact o1
theorem enter_all {m:MdlD} {la:List Int} {k r:Nat} (hr:rgA m (k:Int)=r):enterOk m la k=(decide (atL la r<0) && (upsM m (arM m k)).all (isA m la)):=by
 unfold enterOk;rw [hr]
theorem ups_all {m:MdlD} {v:Int} {f:Int→Bool} (h:∀ i,i<lenM m v→f (upN m i v)=true):(upsM m v).all f=true:=by
 rw [upsM_eq,List.all_eq_true]
 intro x hx
 obtain ⟨i,hi,rfl⟩:=List.mem_map.1 hx
 exact h i (List.mem_range.1 hi)
theorem ups_not {m:MdlD} {v:Int} {f:Int→Bool} {i:Nat} (hi:i<lenM m v) (h:f (upN m i v)=false):(upsM m v).all f=false:=by
 rw [upsM_eq,List.all_eq_false]
 exact ⟨_,List.mem_map.2 ⟨i,List.mem_range.2 hi,rfl⟩,by rw [h];simp⟩
theorem up_at {m:MdlD} (h0:riM m=(0,0,0)) {k:Nat} (hk:k<m.vers.length) {j:Nat} (hj:j<lenM m (arM m k)):∃ x r:Nat,upN m j (arM m k)=x∧x<m.vers.length∧stands m x=true∧rgA m x=r∧r<m.regs.length∧homeM m x=r∧parM m x=upN m (j+1) (arM m k)∧lenM m (upN m (j+1) (arM m k))<lenM m (x:Int):=by
 obtain ⟨x,hx,hxl,ha⟩:=(ups_steps h0 (len_par h0 hk).2.2 (by have:=(len_par h0 hk).2.1;omega)).2 j hj
 have hm:(x:Int) ∈ upsM m (arM m k):=by
   rw [upsM_eq,List.mem_map]
   exact ⟨j,List.mem_range.2 hj,hx⟩
 obtain ⟨s,hs,e,hkd,_⟩:=up_state h0 hk hm
 obtain rfl:x=s:=by omega
 have hst:stands m (x:Int)=true:=by rw [stands_at hs,hkd];rfl
 obtain ⟨k',hk',ek,r,hr,e1,e2,_⟩:=stands_in h0 hst
 refine ⟨x,r,hx,hxl,hst,e1,hr,e2,?_,?_⟩
 · unfold parM;rw [hasV_at hxl,if_pos rfl,ha]
 · rw [← ha];exact len_dn h0 hxl
set_option maxRecDepth 100000 in
set_option maxHeartbeats 8000000 in
theorem enter_any {B:Nat} {m:MdlD} {SB:Nat} {w:World} (h:SetAt B m SB w) (h0:riM m=(0,0,0)) (hm1:m.regs.length≤1000) (hm2:m.vers.length≤1000) (la ll:List Int) (a1 a2:Option Addr) (c1 c2:Nat) (h1:RowIn w (.slice a1 la.length c1) la) (h2:RowIn w (.slice a2 ll.length c2) ll) (b1:la.length≤140737488355328) (b2:ll.length≤140737488355328) (v:Int) :
   Calls Tryz.prog 25 #[.pointer (some ⟨SB,0,none⟩),.agg #[.slice a1 la.length c1,.slice a2 ll.length c2],.int .i64 v] w (EnterP m la ll v w):=by
 have HB1:Hid (Below w.heap.size w ((w.alloc (.cells #[.slice a1 la.length c1,.slice a2 ll.length c2] 52)).alloc (.cells #[.slice none 0 0,.slice none 0 0] 52))):=Lib.hid (below_al2 w _ _)
 have HC:=Lib.hid ((Cb.made h1 h2).below (below_al1 _ (.cells #[.slice none 0 0,.slice none 0 0] 52)))
 have HA:=Lib.hid (h.grown HB1.out)
 have HAw:=Lib.hid (fun wx (g:Below w.heap.size w wx)=>h.grown g)
 have HSB:Hid (SB<w.heap.size):=Lib.hid (by obtain ⟨_,_,_,_,_,_,_,hz⟩:=h;exact hz)
 have hz:((w.alloc (.cells #[.slice a1 la.length c1,.slice a2 ll.length c2] 52)).alloc (.cells #[.slice none 0 0,.slice none 0 0] 52)).heap.size=w.heap.size+1+1:=by simp
 have e0:((w.alloc (.cells #[.slice a1 la.length c1,.slice a2 ll.length c2] 52)).alloc (.cells #[.slice none 0 0,.slice none 0 0] 52)).heap[w.heap.size]? = some (.cells #[.slice a1 la.length c1,.slice a2 ll.length c2] 52 (0,0)):=(Below.heap_alloc _ _ _ (by simp)).trans (World.alloc_heap_new w _)
 have e1:=World.alloc_heap_new (w.alloc (.cells #[.slice a1 la.length c1,.slice a2 ll.length c2] 52)) (.cells #[.slice none 0 0,.slice none 0 0] 52)
 rw [World.size_alloc] at e1
 have HK:Hid (∀ wx,Below (w.heap.size+1+1) ((w.alloc (.cells #[.slice a1 la.length c1,.slice a2 ll.length c2] 52)).alloc (.cells #[.slice none 0 0,.slice none 0 0] 52)) wx→(wx.cell? ⟨w.heap.size+1,0,none⟩=some (.slice none 0 0)∧wx.cell? ⟨w.heap.size+1,1,none⟩=some (.slice none 0 0)∧wx.frozen? ⟨w.heap.size+1,0,none⟩=false∧wx.frozen? ⟨w.heap.size+1,1,none⟩=false)∧wx.frozen? ⟨w.heap.size,0,none⟩=false∧wx.frozen? ⟨w.heap.size,1,none⟩=false):=Lib.hid fun wx g=>by
   have f0:=(g.block w.heap.size (by omega)).trans e0
   have f1:=(g.block (w.heap.size+1) (by omega)).trans e1
   exact ⟨⟨cell_blk f1 0,cell_blk f1 1,frz_b f1 0,frz_b f1 1⟩,frz_b f0 0,frz_b f0 1⟩
 clear e0 e1
 have MY:=Lib.hid (may20_any HA.out h0 hm2 la ll a1 a2 c1 c2 HC.out.r1 HC.out.r2 b1 b2 v)
 have H0:=Lib.hid h0
 have HMz:=Lib.hid (fun h:mayE m la ll v=0=>mayE_zero h)
 obtain ⟨E,hEe⟩:∃ E,mayE m la ll v=E:=⟨_,rfl⟩
 rw [hEe] at MY HMz
 have HEe:=Lib.hid hEe
 clear hEe
 clear h h1 h2 b1 b2 h0
 go_enter Tryz.func25,Tryz.ntmps25
 go_upto_region 1 with fail
 generalize (w.alloc (.cells #[.slice a1 la.length c1,.slice a2 ll.length c2] 52)).alloc (.cells #[.slice none 0 0,.slice none 0 0] 52)=W1 at *
 have d0:=HC.out.d0
 have d1:=HC.out.d1
 go_wp2_with fail
 (with_reducible refine (MY.out).mono ?_)
 rintro e w3 ⟨rfl,g3⟩
 have HC3:=Lib.hid (HC.out.below g3)
 have HA3:=Lib.hid (HA.out.grown g3)
 have HB3:=Lib.hid (HB1.out.trans (g3.mono HB1.out.size))
 have HK3:=Lib.hid (fun wx (g:Below w3.heap.size w3 wx)=>HK.out wx ((g3.trans (g.mono g3.size)).mono (by omega)))
 have hz3:w.heap.size+1+1≤w3.heap.size:=by have:=g3.size;omega
 clear d0 d1 HC HA HB1 HK g3 MY hz
 obtain ⟨⟨t0,t1,t2,t3⟩,t4,t5⟩:=HK3.out w3 (Below.refl _ _)
 by_cases hE:E=0
 rotate_left
 · have hz1:((E:Int) != 0)=true:=by simp only [bne_iff_ne,ne_eq];omega
   have HE:=Lib.hid hE
   clear HMz hE
   go_wp2_with fail
   refine bodyPost_ret (v:=.tuple #[.agg #[.slice none 0 0,.slice none 0 0],.int .i64 (E:Int)]) (by simp [results,Tryz.results25,go_sem,t0,t1]) rfl (EnterP.bad HEe.out HE.out ((HB3.out.setCell (p:=⟨w.heap.size+1,0,none⟩) (by simp) _).setCell (p:=⟨w.heap.size+1,1,none⟩) (by simp) _))
 subst hE
 obtain ⟨hfit,hst⟩:=HMz.out rfl
 obtain ⟨F1,F2⟩:=fit_of H0.out hfit
 obtain ⟨k,hk,rfl,r,hr,er1,er2,er3,er4,er5⟩:=stands_in H0.out hst
 have HF1:=Lib.hid F1
 have HF2:=Lib.hid F2
 have hrl:r<la.length:=by rw [F1.hl];exact hr
 have hla:la.length≤1000:=by rw [F1.hl];exact hm1
 have hll:ll.length≤1000:=by rw [F2.hl];exact hm1
 have hll0:0<ll.length:=by rw [F2.hl];omega
 have HRa:Hid ((rgA m (k:Int)).toNat=r):=Lib.hid (by rw [er1];rfl)
 have HEn:=Lib.hid (enter_all (m:=m) (la:=la) er1)
 obtain ⟨IB,kv,hi,s0,s1,s2,hku,hzS⟩:=HA3.out
 have HIx:=Lib.hid hi
 have HHm:=Lib.hid (fun n=>home_any (hi.grown (below_drewN (Below.refl w3.heap.size w3) n)) (k:Int) (WalkArith.wf_i64 ⟨by omega,by omega⟩))
 have HPr:=Lib.hid (fun n=>parent_any (hi.grown (below_drewN (Below.refl w3.heap.size w3) n)) (k:Int) (WalkArith.wf_i64 ⟨by omega,by omega⟩))
 rw [er2] at HHm
 have hpk:parM m (k:Int)=upN m 0 (arM m k):=by unfold parM;rw [hasV_at hk,if_pos rfl];rfl
 rw [hpk] at HPr
 have HUa:=Lib.hid (fun j hj=>up_at H0.out hk (j:=j) hj)
 have HUe:Hid (upN m (lenM m (arM m k)) (arM m k)<0):=Lib.hid (ups_steps H0.out (len_par H0.out hk).2.2 (by have:=(len_par H0.out hk).2.1;omega)).1
 have hln:lenM m (arM m k)≤64:=(len_par H0.out hk).2.1
 clear HMz hfit hst F1 F2 hi hku er1 er2 er3 er4 er5 hpk s1 s2
 go_upto_region 4 with fail
 go_quiet (first | (go_at_call 63;refine Calls.quiet_of_same (v:=.int .i64 (r:Int)) ?_;((with_reducible refine (HHm.out _).mono ?_));rintro e w' ⟨he,hw⟩;exact ⟨he,hw.symm⟩) | (go_at_call 76;refine Calls.quiet_of_same (v:=.int .i64 (upN m 0 (arM m k))) ?_;((with_reducible refine (HPr.out _).mono ?_));rintro e w' ⟨he,hw⟩;exact ⟨he,hw.symm⟩))
 have HAo:=Lib.hid (fun wx (g:Below w3.heap.size w3 wx)=>HA3.out.grown g)
 have hrI:(r:Int)<(la.length:Int):=by omega
 have hr0:(0:Int)≤(r:Int):=by omega
 clear HHm HPr t0 t1 t2 t3 t4 t5 s0 hzS HIx
 go_wp2_with fail
 go_loopw [10] (fun p wr=>∃ j:Nat,j≤lenM m (arM m k)∧p=.int .i64 (upN m j (arM m k))∧Below w3.heap.size w3 wr∧∀ i,i<j→isA m la (upN m i (arM m k))=true) (fun p _=>lenM m (intOf p))
 case atStart=>exact ⟨0,by omega,rfl,below_drewN (Below.refl _ _) _,fun i hi=>by omega⟩
 case round =>
  obtain ⟨wo,rfl⟩:∃ wo:World,wo=wr:=⟨_,rfl⟩
  obtain ⟨j,hj,rfl,hb,hall⟩:=hrel
  have HBo:=Lib.hid hb
  have HAl:=Lib.hid hall
  have hzo:w.heap.size+1+1≤wo.heap.size:=by have:=hb.size;omega
  clear hb hall
  obtain ⟨⟨t0,t1,t2,t3⟩,t4,t5⟩:=HK3.out wo HBo.out
  have HCo:=Lib.hid (HC3.out.below HBo.out)
  have d0:=HCo.out.d0
  have d1:=HCo.out.d1
  obtain ⟨b,o,ea,hbl,hcp,hcl⟩:=HCo.out.at hrl
  have HBw:Hid (Below w.heap.size w wo):=Lib.hid (HB3.out.trans (HBo.out.mono HB3.out.size))
  by_cases hlt:j<lenM m (arM m k)
  · obtain ⟨x,q,ex,hxl,hxs,hxq,hql,hxh,hxp,hxd⟩:=HUa.out j hlt
    rw [ex]
    have hx0:(0:Int)≤(x:Int):=by omega
    have HAc:=Lib.hid (active20_any (HAo.out wo HBo.out) hm2 la ll a1 a2 c1 c2 HCo.out.r1 HCo.out.r2 x q hxl hxh (by rw [HF1.out.hl];exact hql))
    have HIs:Hid (∀ y,(atL la q == (x:Int))=y→isA m la (upN m j (arM m k))=y):=Lib.hid fun y hy=>by
      rw [ex]
      unfold isA
      rw [hxs,hxq,hy];rfl
    obtain ⟨y,hy⟩:∃ y,(atL la q == (x:Int))=y:=⟨_,rfl⟩
    rw [hy] at HAc
    have HIy:=Lib.hid (HIs.out y hy)
    have HXp:=Lib.hid hxp
    have HXd:=Lib.hid hxd
    clear HIs hy hxs hxq hxh hxp hxd ex ea hbl hcp hcl
    cases y
    · have HNo:Hid (enterOk m la k=false):=Lib.hid (by rw [HEn.out,ups_not hlt HIy.out];simp)
      clear HIy HXp HXd HUa HAl
      go_wp2_with fail
      (with_reducible refine (HAc.out).mono ?_)
      rintro e w4 ⟨rfl,g4⟩
      have HB4:=Lib.hid (below_ch HBo.out g4)
      have HBw4:Hid (Below w.heap.size w w4):=Lib.hid (HB3.out.trans (HB4.out.mono HB3.out.size))
      have hz4:w.heap.size+1+1≤w4.heap.size:=by have:=HB4.out.size;omega
      clear t0 t1 t2 t3 t4 t5 d0 d1 g4 HCo HAc HBo HBw
      obtain ⟨⟨t0,t1,t2,t3⟩,t4,t5⟩:=HK3.out w4 HB4.out
      have HCo:=Lib.hid (HC3.out.below HB4.out)
      have d0:=HCo.out.d0
      have d1:=HCo.out.d1
      obtain ⟨b,o,ea,hbl,hcp,hcl⟩:=HCo.out.at hrl
      subst ea
      by_cases ha:0≤atL la r
      · generalize atL la r=y at *
        go_wp2_with fail
        refine bodyPost_ret (v:=.tuple #[.agg #[.slice none 0 0,.slice none 0 0],.int .i64 4]) (by simp [results,Tryz.results25,go_sem,t0,t1]) rfl (EnterP.no HEe.out HNo.out ((HBw4.out.setCell (p:=⟨w.heap.size+1,0,none⟩) (by simp) _).setCell (p:=⟨w.heap.size+1,1,none⟩) (by simp) _))
      · generalize atL la r=y at *
        have had:decide (0≤y)=false:=decide_eq_false ha
        go_wp2_with fail
        refine bodyPost_ret (v:=.tuple #[.agg #[.slice none 0 0,.slice none 0 0],.int .i64 4]) (by simp [results,Tryz.results25,go_sem,t0,t1]) rfl (EnterP.no HEe.out HNo.out ((HBw4.out.setCell (p:=⟨w.heap.size+1,0,none⟩) (by simp) _).setCell (p:=⟨w.heap.size+1,1,none⟩) (by simp) _))
    · have HAn:Hid (∀ i,i<j+1→isA m la (upN m i (arM m k))=true):=Lib.hid fun i hi=>by
        by_cases e:i=j
        · subst e;exact HIy.out
        · exact HAl.out i (by omega)
      clear HIy HUa HAl
      go_wp2_with fail
      (with_reducible refine (HAc.out).mono ?_)
      rintro e w4 ⟨rfl,g4⟩
      have HB4:=Lib.hid (below_ch HBo.out g4)
      obtain ⟨IB,kv,hi,s0,s1,s2,hku,hzS⟩:=HAo.out w4 HB4.out
      have HPr:=Lib.hid (parent_any hi (x:Int) (WalkArith.wf_i64 ⟨by omega,by omega⟩))
      rw [HXp.out] at HPr
      clear t0 t1 t2 t3 t4 t5 d0 d1 g4 HCo HAc HBo HBw hi hku s1 s2
      go_wp2_with fail
      (with_reducible refine (HPr.out).mono ?_)
      rintro e w5 ⟨rfl,rfl⟩
      go_wp2_with fail
      go_roundw
      case rel=>exact ⟨j+1,by omega,rfl,HB4.out,HAn.out⟩
      case measure=>exact HXd.out
  · obtain rfl:j=lenM m (arM m k):=by omega
    have hup:=HUe.out
    have HAu:=Lib.hid (ups_all (f:=isA m la) HAl.out)
    have hnI:¬ (0≤upN m (lenM m (arM m k)) (arM m k)):=by omega
    have hnD:decide (0≤upN m (lenM m (arM m k)) (arM m k))=false:=decide_eq_false hnI
    generalize upN m (lenM m (arM m k)) (arM m k)=z at *
    subst ea
    clear HAl HUa hlt HUe
    by_cases ha:0≤atL la r
    · have HNo:Hid (enterOk m la k=false):=Lib.hid (by rw [HEn.out,decide_eq_false (show ¬ atL la r<0 by omega)];rfl)
      generalize atL la r=y at *
      go_wp2_with fail
      refine bodyPost_ret (v:=.tuple #[.agg #[.slice none 0 0,.slice none 0 0],.int .i64 4]) (by simp [results,Tryz.results25,go_sem,t0,t1]) rfl (EnterP.no HEe.out HNo.out ((HBw.out.setCell (p:=⟨w.heap.size+1,0,none⟩) (by simp) _).setCell (p:=⟨w.heap.size+1,1,none⟩) (by simp) _))
    · have HYs:Hid (enterOk m la k=true):=Lib.hid (by rw [HEn.out,decide_eq_true (show atL la r<0 by omega),HAu.out];rfl)
      have had:decide (0≤atL la r)=false:=decide_eq_false ha
      generalize atL la r=y at *
      have HCl:=Lib.hid (cfgClone_any wo HCo.out.r1 HCo.out.r2 (fun e=>by rw [e] at hrl;simp at hrl) (fun e=>by rw [e] at hll0;simp at hll0) (by omega) (by omega))
      clear t0 t1 t2 t3 t4 t5
      go_wp2_with fail
      (with_reducible refine (HCl.out).mono ?_)
      rintro e w7 ⟨v1,v2,rfl,o1,o2,hd,g7⟩
      obtain ⟨g1,cap1,rfl⟩:=ownsRow_pos o1 (by omega)
      obtain ⟨g2,cap2,rfl⟩:=ownsRow_pos o2 (by omega)
      have hg12:g1≠g2:=fun e=>hd g1 rfl (by rw [e];rfl)
      have hgl1:=o1.lt g1 rfl
      have hgl2:=o2.lt g2 rfl
      have hcp1:=ownsRow_capL o1
      have hcp2:=ownsRow_capL o2
      have HG7:=Lib.hid (below_ch HBo.out g7)
      obtain ⟨⟨t0,t1,t2,t3⟩,t4,t5⟩:=HK3.out w7 HG7.out
      have e0:=(g7.cell (p:=⟨w.heap.size,0,none⟩) (by simp only;omega)).trans d0
      have e1:=(g7.cell (p:=⟨w.heap.size,1,none⟩) (by simp only;omega)).trans d1
      have HB7:=Lib.hid (HBw.out.trans (g7.mono HBw.out.size))
      have HO1:=Lib.hid o1
      have HO2:=Lib.hid o2
      clear o1 o2 hd g7 d0 d1 HCl HK3 hbl hcl
      go_upto_region 10 with fail
      have hB8:Below w.heap.size w ((w7.setCell ⟨w.heap.size,0,none⟩ (.slice (some ⟨g1,0,none⟩) la.length cap1)).setCell ⟨w.heap.size,1,none⟩ (.slice (some ⟨g2,0,none⟩) ll.length cap2)):=(HB7.out.setCell (p:=⟨w.heap.size,0,none⟩) (Nat.le_refl _) _).setCell (p:=⟨w.heap.size,1,none⟩) (Nat.le_refl _) _
      have k1:((w7.setCell ⟨w.heap.size,0,none⟩ (.slice (some ⟨g1,0,none⟩) la.length cap1)).setCell ⟨w.heap.size,1,none⟩ (.slice (some ⟨g2,0,none⟩) ll.length cap2)).cell? ⟨w.heap.size,1,none⟩=some (.slice (some ⟨g2,0,none⟩) ll.length cap2):=World.cell?_setCell_same _ _ _ ((World.cell?_setCell_other _ _ _ _ (by simp)).trans e1)
      have k0:((w7.setCell ⟨w.heap.size,0,none⟩ (.slice (some ⟨g1,0,none⟩) la.length cap1)).setCell ⟨w.heap.size,1,none⟩ (.slice (some ⟨g2,0,none⟩) ll.length cap2)).cell? ⟨w.heap.size,0,none⟩=some (.slice (some ⟨g1,0,none⟩) la.length cap1):=(World.cell?_setCell_other _ _ _ _ (by simp)).trans (World.cell?_setCell_same _ _ _ e0)
      have p1:=ownsRow_setCell_below (a:=⟨w.heap.size,1,none⟩) (ownsRow_setCell_below (a:=⟨w.heap.size,0,none⟩) HO1.out (by simp only;omega) (.slice (some ⟨g1,0,none⟩) la.length cap1)) (by simp only;omega) (.slice (some ⟨g2,0,none⟩) ll.length cap2)
      have p2:=ownsRow_setCell_below (a:=⟨w.heap.size,1,none⟩) (ownsRow_setCell_below (a:=⟨w.heap.size,0,none⟩) HO2.out (by simp only;omega) (.slice (some ⟨g1,0,none⟩) la.length cap1)) (by simp only;omega) (.slice (some ⟨g2,0,none⟩) ll.length cap2)
      have kb:∀ b,b≠w.heap.size→((w7.setCell ⟨w.heap.size,0,none⟩ (.slice (some ⟨g1,0,none⟩) la.length cap1)).setCell ⟨w.heap.size,1,none⟩ (.slice (some ⟨g2,0,none⟩) ll.length cap2)).heap[b]? = w7.heap[b]? := fun b hb=>(Below.heap_setCell _ _ _ _ hb).trans (Below.heap_setCell _ _ _ _ hb)
      generalize (w7.setCell ⟨w.heap.size,0,none⟩ (.slice (some ⟨g1,0,none⟩) la.length cap1)).setCell ⟨w.heap.size,1,none⟩ (.slice (some ⟨g2,0,none⟩) ll.length cap2)=W8 at *
      have u0:W8.cell? ⟨w.heap.size+1,0,none⟩=some (.slice none 0 0):=(World.cell?_of_block (w:=w7) (kb _ (by simp))).trans t0
      have u1:W8.cell? ⟨w.heap.size+1,1,none⟩=some (.slice none 0 0):=(World.cell?_of_block (w:=w7) (kb _ (by simp))).trans t1
      have u2:W8.frozen? ⟨w.heap.size+1,0,none⟩=false:=(World.frozen?_of_block (w:=w7) (kb _ (by simp))).trans t2
      have u3:W8.frozen? ⟨w.heap.size+1,1,none⟩=false:=(World.frozen?_of_block (w:=w7) (kb _ (by simp))).trans t3
      have hgl1:=p1.lt g1 rfl
      have hgl2:=p2.lt g2 rfl
      have HB8:=Lib.hid hB8
      have HP1:=Lib.hid p1
      have HP2:=Lib.hid p2
      have q1:=(HP1.out.cellAt r (by omega)).trans (show (nums la)[r]? = some (.int .i64 la[r]) by simp [nums,hrl])
      have f1:=HP1.out.frozenAt r
      have kb9:∀ b,b≠g1→(W8.setCell ⟨g1,r,none⟩ (.int .i64 (k:Int))).heap[b]? = W8.heap[b]? := fun b h1=>Below.heap_setCell _ _ _ _ h1
      have hB9:Below w.heap.size w (W8.setCell ⟨g1,r,none⟩ (.int .i64 (k:Int))):=HB8.out.setCell (p:=⟨g1,r,none⟩) (by simp only;omega) _
      have m1:=(HP1.out.stored r (.int .i64 (k:Int))).1
      have m2:=ownsRow_setCell_other (a:=⟨g1,r,none⟩) HP2.out (fun e=>hg12 (by simpa [Value.ownBlock] using e.symm)) (.int .i64 (k:Int))
      clear t0 t1 t2 t3 t4 t5 e0 e1 HB7 HG7 HO1 HO2 kb p1 p2 hB8 HP1 HP2
      go_upto_region 11 with fail
      generalize W8.setCell ⟨g1,r,none⟩ (.int .i64 (k:Int))=W9 at *
      have n0:W9.cell? ⟨w.heap.size,0,none⟩=some (.slice (some ⟨g1,0,none⟩) la.length cap1):=(World.cell?_of_block (w:=W8) (kb9 _ (by simp only;omega))).trans k0
      have n1:W9.cell? ⟨w.heap.size,1,none⟩=some (.slice (some ⟨g2,0,none⟩) ll.length cap2):=(World.cell?_of_block (w:=W8) (kb9 _ (by simp only;omega))).trans k1
      have n2:W9.cell? ⟨w.heap.size+1,0,none⟩=some (.slice none 0 0):=(World.cell?_of_block (w:=W8) (kb9 _ (by simp only;omega))).trans u0
      have n3:W9.cell? ⟨w.heap.size+1,1,none⟩=some (.slice none 0 0):=(World.cell?_of_block (w:=W8) (kb9 _ (by simp only;omega))).trans u1
      have n4:W9.frozen? ⟨w.heap.size+1,0,none⟩=false:=(World.frozen?_of_block (w:=W8) (kb9 _ (by simp only;omega))).trans u2
      have n5:W9.frozen? ⟨w.heap.size+1,1,none⟩=false:=(World.frozen?_of_block (w:=W8) (kb9 _ (by simp only;omega))).trans u3
      have HB9:=Lib.hid hB9
      have HM1:=Lib.hid m1
      have HM2:=Lib.hid m2
      clear kb9 hB9 m1 m2 u0 u1 u2 u3 k0 k1 q1 f1 HB8
      go_wp2_with fail
      refine bodyPost_ret (v:=.tuple #[.agg #[.slice (some ⟨g1,0,none⟩) la.length cap1,.slice (some ⟨g2,0,none⟩) ll.length cap2],.int .i64 0]) (by simp [results,Tryz.results25,go_sem,n2,n3]) rfl (EnterP.yes HEe.out HYs.out HRa.out ((HB9.out.setCell (p:=⟨w.heap.size+1,0,none⟩) (by simp) _).setCell (p:=⟨w.heap.size+1,1,none⟩) (by simp) _) ?_ ?_ (fun g h1 h2=>hg12 (by simp only [Value.ownBlock,Option.some.injEq] at h1 h2;omega)))
      · exact (ownsRow_setCell_below (a:=⟨w.heap.size+1,1,none⟩) (ownsRow_setCell_below (a:=⟨w.heap.size+1,0,none⟩) HM1.out (by simp only;omega) _) (by simp only;omega) _).mono (by omega)
      · exact (ownsRow_setCell_below (a:=⟨w.heap.size+1,1,none⟩) (ownsRow_setCell_below (a:=⟨w.heap.size+1,0,none⟩) HM2.out (by simp only;omega) _) (by simp only;omega) _).mono (by omega)
theorem made_zero (n:Nat):(madeCells (Value.int .i64 0).cells (n * 1)).toList=nums (List.replicate n 0):=by
 apply List.ext_getElem?
 intro j
 by_cases h:j<n <;> simp [madeCells,nums,Value.cells,Nat.mod_one,h]
def fillR (n k:Nat):List Int:=List.replicate k (-1) ++ List.replicate (n - k) 0
theorem fillR_len {n k:Nat} (h:k≤n):(fillR n k).length=n:=by unfold fillR;simp;omega
theorem fillR_zero (n:Nat):fillR n 0=List.replicate n 0:=by unfold fillR;simp
theorem fillR_all (n:Nat):fillR n n=List.replicate n (-1):=by unfold fillR;simp
theorem fillR_step {n k:Nat} (h:k<n):(fillR n k).set k (-1)=fillR n (k+1):=by
 unfold fillR
 rw [List.set_append_right _ _ (by simp),List.length_replicate,Nat.sub_self,List.replicate_succ',List.append_assoc]
 congr 1
 obtain ⟨d,hd⟩:∃ d,n - k=d+1:=⟨n - k - 1,by omega⟩
 rw [hd,show n - (k+1)=d by omega,List.replicate_succ];rfl
theorem nums_set (l:List Int) (k:Nat) (x:Int):nums (l.set k x)=(nums l).set k (.int .i64 x):=by simp [nums,List.map_set]
set_option maxRecDepth 100000 in
set_option maxHeartbeats 2000000 in
theorem none20_any (n:Nat) (w:World) (hn:n≤1000):Calls Tryz.prog 81 #[.int .i64 (n:Int)] w (RowP (List.replicate n (-1)) w):=by
 obtain ⟨iI,hiI,zI0,zI1,zI2⟩:=info_parts info_Num
 have HBy:Hid (iI.bytes * n≤281474976710656):=Lib.hid (by rw [zI2];omega)
 have hmk:Hid (n≤maxLen):=Lib.hid (by unfold maxLen;omega)
 go_enter Tryz.func81,Tryz.ntmps81
 go_wp2_with (at_make;refine wpList_make_full _ rfl _ _ 29 rfl w.heap.size 3 iI (.int .i64 0) 1 Tryz.underlying29 hiI zI0 zI1 .i64 .i64 (n:Int) (n:Int) n rfl rfl rfl rfl HBy.out hmk.out (Nat.le_refl _) ?_;intro w6 hown6 hgrow6)
 have HO6:Hid (w6.ownsRow w.heap.size 3 1 (.slice (some ⟨w.heap.size,0,none⟩) n n) n (nums (fillR n 0))):=Lib.hid (by
   rw [made_zero] at hown6;rw [fillR_zero];exact hown6)
 have HB6:Hid (Below w.heap.size w w6):=Lib.hid ((Below.refl _ w).grown hgrow6 (Nat.le_refl _) (fun q hq=>by cases hq))
 clear hown6 hgrow6
 go_loopw [9] (fun i wr=>∃ k:Nat,k≤n∧i=.int .i64 k∧Below w.heap.size w wr∧wr.ownsRow w.heap.size 3 1 (.slice (some ⟨w.heap.size,0,none⟩) n n) n (nums (fillR n k))) (fun i _=>n - (intOf i).toNat)
 case atStart=>exact ⟨0,by omega,rfl,HB6.out,HO6.out⟩
 case round =>
  obtain ⟨wo,rfl⟩:∃ wo:World,wo=wr:=⟨_,rfl⟩
  obtain ⟨k,hk,rfl,hb,ho⟩:=hrel
  have HBo:=Lib.hid hb
  have HOo:=Lib.hid ho
  have hgo:=(ho.lt _ rfl).2
  clear hb ho HB6 HO6
  by_cases hlt:k<n
  · have hI:(k:Int)<(n:Int):=by omega
    have hI0:(0:Int)≤(k:Int):=by omega
    obtain ⟨x,hx⟩:∃ x,(nums (fillR n k))[k]? = some x:=⟨_,List.getElem?_eq_getElem (by unfold nums;rw [List.length_map,fillR_len (by omega)];exact hlt)⟩
    have hc:wo.cell? ⟨w.heap.size,k,none⟩=some x:=(HOo.out.cellAt k (by omega)).trans hx
    have hf:=HOo.out.frozenAt k
    have HFin:Hid (Below w.heap.size w (wo.setCell ⟨w.heap.size,k,none⟩ (.int .i64 (-1)))∧(wo.setCell ⟨w.heap.size,k,none⟩ (.int .i64 (-1))).ownsRow w.heap.size 3 1 (.slice (some ⟨w.heap.size,0,none⟩) n n) n (nums (fillR n (k+1)))):=Lib.hid (by
      refine ⟨HBo.out.setCell (p:=⟨w.heap.size,k,none⟩) (Nat.le_refl _) _,?_⟩
      rw [← fillR_step hlt,nums_set]
      exact (HOo.out.stored k (.int .i64 (-1))).1)
    clear hx HOo HBo
    go_wp2_with fail
    go_roundw
    case rel=>exact ⟨k+1,by omega,by go_num,HFin.out⟩
    case measure=>simp [intOf] <;> omega
  · obtain rfl:k=n:=by omega
    go_wp2_with fail
    go_ret
    refine ⟨_,rfl,?_,HBo.out⟩
    have:=HOo.out
    rw [fillR_all] at this
    rw [List.length_replicate];exact this
theorem blank_fin {la ll:List Int} {n1 n2:Nat} {w W1 wF:World} {v1 v2:Value} (hB:Below w.heap.size w W1) (hz:W1.heap.size=w.heap.size+1) (gF:Below W1.heap.size W1 wF) (o1:wF.ownsRow W1.heap.size 3 1 v1 n1 (nums la)) (o2:wF.ownsRow W1.heap.size 3 1 v2 n2 (nums ll)) (hd:∀ g,v1.ownBlock=some g→v2.ownBlock≠some g) :
   ((wF.setCell ⟨w.heap.size,0,none⟩ v1).setCell ⟨w.heap.size,1,none⟩ v2).ownsRow w.heap.size 3 1 v1 n1 (nums la)∧((wF.setCell ⟨w.heap.size,0,none⟩ v1).setCell ⟨w.heap.size,1,none⟩ v2).ownsRow w.heap.size 3 1 v2 n2 (nums ll)∧(∀ g,v1.ownBlock=some g→v2.ownBlock≠some g)∧Below w.heap.size w ((wF.setCell ⟨w.heap.size,0,none⟩ v1).setCell ⟨w.heap.size,1,none⟩ v2) :=
 ⟨(ownsRow_setCell_below (a:=⟨w.heap.size,1,none⟩) (ownsRow_setCell_below (a:=⟨w.heap.size,0,none⟩) o1 (by simp only;omega) _) (by simp only;omega) _).mono (by omega),(ownsRow_setCell_below (a:=⟨w.heap.size,1,none⟩) (ownsRow_setCell_below (a:=⟨w.heap.size,0,none⟩) o2 (by simp only;omega) _) (by simp only;omega) _).mono (by omega),hd,((hB.trans (gF.mono hB.size)).setCell (p:=⟨w.heap.size,0,none⟩) (Nat.le_refl _) _).setCell (p:=⟨w.heap.size,1,none⟩) (Nat.le_refl _) _⟩
set_option maxRecDepth 100000 in
set_option maxHeartbeats 2000000 in
theorem blank_any {B:Nat} {m:MdlD} {SB:Nat} {w:World} (h:SetAt B m SB w) (hm1:m.regs.length≤1000) :
   Calls Tryz.prog 31 #[.pointer (some ⟨SB,0,none⟩)] w (CloneC (List.replicate m.regs.length (-1)) (List.replicate m.regs.length (-1)) w):=by
 unfold CloneC
 have HA:=Lib.hid (fun wx (g:Below w.heap.size w wx)=>h.grown g)
 have HSB:Hid (SB<w.heap.size):=Lib.hid (by obtain ⟨_,_,_,_,_,_,_,hz⟩:=h;exact hz)
 have NN:=Lib.hid (fun wx=>none20_any m.regs.length wx hm1)
 have HB1:Hid (Below w.heap.size w (w.alloc (.cells #[.slice none 0 0,.slice none 0 0] 52))):=Lib.hid (below_al1 w _)
 have e1:=World.alloc_heap_new w (.cells #[.slice none 0 0,.slice none 0 0] 52)
 have hz1:(w.alloc (.cells #[.slice none 0 0,.slice none 0 0] 52)).heap.size=w.heap.size+1:=by simp
 have HL:Hid ((List.replicate m.regs.length (-1:Int)).length=m.regs.length):=Lib.hid List.length_replicate
 generalize List.replicate m.regs.length (-1:Int)=L at *
 rw [HL.out]
 have HE1:=Lib.hid e1
 clear h e1
 go_enter Tryz.func31,Tryz.ntmps31
 go_upto_region 3 with fail
 generalize w.alloc (.cells #[.slice none 0 0,.slice none 0 0] 52)=W1 at *
 have hB0:Below W1.heap.size W1 W1:=Below.refl _ _
 have HSS:Hid (∀ W',Below W1.heap.size W1 W'→W'.cell? ⟨SB,2,none⟩=some (.int .i64 m.regs.length)∧W'.cell? ⟨w.heap.size,0,none⟩=some (.slice none 0 0)∧W'.cell? ⟨w.heap.size,1,none⟩=some (.slice none 0 0)∧W'.frozen? ⟨w.heap.size,0,none⟩=false∧W'.frozen? ⟨w.heap.size,1,none⟩=false):=Lib.hid fun W' g=>by
   obtain ⟨IB,kv,_,_,_,s2,_,_⟩:=HA.out W' (below_ch HB1.out g)
   have f0:=(g.block w.heap.size (by omega)).trans HE1.out
   exact ⟨s2,cell_blk f0 0,cell_blk f0 1,frz_b f0 0,frz_b f0 1⟩
 have CA:=Lib.hid (fun W'=>NN.out W')
 clear HA NN
 refine wp_region_any (by kernel_rfl) ?_
 change wpAny _ _ _ _ _ _ _ (World.drew _)
 refine wpAny_sink (n:=11) (o:=⟨none,.store 52 (.tmp 2) (.tmp 16),0, "sets.go:61", #[⟨10,.data⟩,⟨9,.chain⟩,⟨0,.phase⟩,⟨1,.phase⟩,⟨2,.phase⟩,⟨3,.phase⟩,⟨4,.phase⟩,⟨5,.phase⟩,⟨6,.phase⟩,⟨7,.phase⟩,⟨8,.phase⟩,⟨9,.phase⟩,⟨10,.phase⟩],none⟩) (ops':=#[⟨some 6,.move (.tmp 0),46, "sets.go:61", #[],none⟩,⟨some 7,.nilCheck (.tmp 6),0, "sets.go:61", #[⟨0,.data⟩],none⟩,⟨some 8,.fieldAddr 109 (.tmp 7) 2,0, "sets.go:61", #[⟨1,.data⟩],none⟩,⟨some 9,.load 3 (.tmp 8),3, "sets.go:61", #[⟨2,.data⟩],none⟩,⟨some 10,.call { callee:=.value (.func 81),args:=#[.tmp 9],argTypes:=#[3] },29, "sets.go:61", #[⟨3,.data⟩],none⟩,⟨some 11,.move (.tmp 0),46, "sets.go:61", #[],none⟩,⟨some 12,.nilCheck (.tmp 11),0, "sets.go:61", #[⟨5,.data⟩],none⟩,⟨some 13,.fieldAddr 109 (.tmp 12) 2,0, "sets.go:61", #[⟨6,.data⟩],none⟩,⟨some 14,.load 3 (.tmp 13),3, "sets.go:61", #[⟨7,.data⟩],none⟩,⟨some 15,.call { callee:=.value (.func 81),args:=#[.tmp 14],argTypes:=#[3] },29, "sets.go:61", #[⟨8,.data⟩,⟨4,.chain⟩],none⟩,⟨some 16,.build 52 #[(0,.tmp 10),(1,.tmp 15)],52, "sets.go:61", #[⟨4,.data⟩,⟨9,.data⟩],none⟩]) (by decide) (by kernel_rfl) (by rfl) (by rfl) ?_
 refine wpAny_of_heldS (S:=(fun W'=>W'.cell? ⟨SB,2,none⟩=some (.int .i64 m.regs.length)∧W'.cell? ⟨w.heap.size,0,none⟩=some (.slice none 0 0)∧W'.cell? ⟨w.heap.size,1,none⟩=some (.slice none 0 0)∧W'.frozen? ⟨w.heap.size,0,none⟩=false∧W'.frozen? ⟨w.heap.size,1,none⟩=false)) ?_ (fun hHeld=>?_)
 · (try dsimp only) <;> (first | exact HSS.out _ hB0.drew | exact HSS.out _ (by assumption))
 refine tk 0 rfl ?_
 try simp only [Act.put,lyA,lyZ,lyS]
 refine tk 1 rfl ?_
 try simp only [Act.put,lyA,lyZ,lyS]
 refine tk 2 rfl ?_
 try simp only [Act.put,lyA,lyZ,lyS]
 refine tk 3 rfl ?_
 try simp only [Act.put,lyA,lyZ,lyS]
 refine tk 5 rfl ?_
 try simp only [Act.put,lyA,lyZ,lyS]
 refine tk 6 rfl ?_
 try simp only [Act.put,lyA,lyZ,lyS]
 refine tk 7 rfl ?_
 try simp only [Act.put,lyA,lyZ,lyS]
 refine tk 8 rfl ?_
 try simp only [Act.put,lyA,lyZ,lyS]
 refine rdy [4] ?_
 refine rdC rfl (fun K hK=>?_) ?_
 (go_simp;(with_reducible refine (CA.out _).mono ?_);rintro e w10 ⟨v10,rfl,o10,hb10⟩;rw [HL.out] at o10;obtain ⟨x10,y10,rfl⟩:=ownsRow_slice o10;have hB10:Below W1.heap.size W1 w10:=below_ch (by first | assumption | exact hB0.drew) hb10;obtain ⟨q0,q1,q2,q3,q4⟩:=HSS.out _ hB10;go_wp2_with fail)
 refine hK.out _ _ ?_ (fun hH1=>?_)
 · (try dsimp only) <;> (first | exact HSS.out _ hB0.drew | exact HSS.out _ (by assumption))
 clear hK K hHeld
 try simp only [Act.put,lyA,lyZ,lyS]
 refine rdy [9] ?_
 refine rdC rfl (fun K hK=>?_) ?_
 (go_simp;(with_reducible refine (CA.out _).mono ?_);rintro e w11 ⟨v11,rfl,o11,hb11⟩;rw [HL.out] at o11;obtain ⟨x11,y11,rfl⟩:=ownsRow_slice o11;have hB11:Below W1.heap.size W1 w11:=below_ch (by first | assumption | exact hB0.drew) hb11;obtain ⟨q0,q1,q2,q3,q4⟩:=HSS.out _ hB11;go_wp2_with fail)
 refine hK.out _ _ ?_ (fun hH2=>?_)
 · (try dsimp only) <;> (first | exact HSS.out _ hB0.drew | exact HSS.out _ (by assumption))
 clear hK K hH1
 try simp only [Act.put,lyA,lyZ,lyS]
 refine tk 10 rfl ?_
 try simp only [Act.put,lyA,lyZ,lyS]
 refine wpAnyH_done (by kernel_rfl) ?_ _
 rotate_left
 exact AllReadyH.nil
 exact AllReadyH.nil
 all_goals
   refine sinkQ_of fun K hK=>?_
   go_simp
   refine hK _ _ ?_
   clear hK K
   go_wp2_with fail
   refine bodyPost_ret (v:=.agg #[.slice x10 m.regs.length y10,.slice x11 m.regs.length y11]) (by simp [results,Tryz.results31,go_sem,q1,q2]) rfl ?_
   first
     | exact ⟨_,_,rfl,blank_fin HB1.out hz1 hB11 (own_below (o10.mono (by first | exact Nat.le_refl _ | exact (show W1.heap.size≤_ from (by simp)))) hb11) (o11.mono hB10.size) (fun g hg hg2=>by have:=(o10.lt g hg).2;have:=(o11.lt g hg2).1;omega)⟩
     | exact ⟨_,_,rfl,blank_fin HB1.out hz1 hB10 (o10.mono hB11.size) (own_below (o11.mono (by first | exact Nat.le_refl _ | exact (show W1.heap.size≤_ from (by simp)))) hb10) (fun g hg hg2=>by have:=(o10.lt g hg).1;have:=(o11.lt g hg2).2;omega)⟩
set_option maxRecDepth 100000 in
set_option maxHeartbeats 2000000 in
theorem home20_any {B:Nat} {m:MdlD} {SB:Nat} {w:World} (h:SetAt B m SB w) (h0:riM m=(0,0,0)) (l:List Int) (lv:Value) (hr:RowIn w lv l) (hl:l.length≤90000) :
   Calls Tryz.prog 27 #[.pointer (some ⟨SB,0,none⟩),lv] w fun e w'=>e=.returned (.int .i64 (homeL m l))∧Below w.heap.size w w':=by
 obtain ⟨IB,kv,hi,s0,s1,s2,hku,hz⟩:=h
 have HI:=Lib.hid (fun wx (g:Below w.heap.size w wx)=>hi.grown g)
 obtain ⟨ad,c,rfl,hc,q⟩:=hr.len
 have H0:=Lib.hid h0
 have HR:=Lib.hid (fun (wx:World) (g:Below w.heap.size w wx)=>hr.below g)
 clear hi hku s1 s2 hr h0
 cases l with
 | nil =>
  clear q
  go_enter Tryz.func27,Tryz.ntmps27
  go_wp2_with fail
  go_ret
  exact ⟨rfl,Below.refl _ _⟩
 | cons a t =>
  obtain ⟨b,o,rfl,hbl,hcl⟩:=q 0 (by simp)
  rw [List.getElem_cons_zero,Nat.add_zero] at hcl
  have HT:Hid (∀ wx,Below w.heap.size w wx→∀ a1 c1,(a1=some ⟨b,o+1,none⟩∧c1=c - 1∨t.length=0)→Calls Tryz.prog 11 #[.pointer (some ⟨IB,0,none⟩),.int .i64 a,.int .i64 a,.slice a1 t.length c1] wx fun e w'=>e=.returned (.int .i64 (homeL m (a :: t)))∧Below wx.heap.size wx w'):=Lib.hid fun wx g a1 c1 hh=>by
    refine common_any (HI.out wx g) a a _ t (by rw [List.length_cons] at hl;omega) ?_ H0.out
    by_cases ht:t.length=0
    · have:t=[]:=List.length_eq_zero_iff.1 ht
      subst this
      exact RowIn.nil0 _ _
    · obtain ⟨rfl,rfl⟩:=hh.resolve_right ht
      have:=(HR.out wx g).back (j:=1) (by rw [List.length_cons];omega)
      simpa using this
  obtain ⟨n,hn⟩:∃ n,t.length=n:=⟨_,rfl⟩
  rw [hn] at HT
  rw [List.length_cons,hn] at hc ⊢
  generalize homeL m (a :: t)=X at *
  have HSS:Hid (∀ W',Below w.heap.size w W'→W'.cell? ⟨SB,0,none⟩=some (.pointer (some ⟨IB,0,none⟩))∧W'.cell? ⟨b,o,none⟩=some (.int .i64 a)):=Lib.hid fun W' g=>⟨(g.cell (p:=⟨SB,0,none⟩) hz).trans s0,(g.cell (p:=⟨b,o,none⟩) hbl).trans hcl⟩
  have hB0:Below w.heap.size w w:=Below.refl _ _
  clear q s0 hcl hz hbl hl HR HI hn
  go_enter Tryz.func27,Tryz.ntmps27
  by_cases hc1:c=1
  · subst hc1
    obtain rfl:n=0:=by omega
    have HTx:=Lib.hid (HT.out w.drew hB0.drew (some ⟨b,o,none⟩) 0 (.inr rfl))
    clear HT hc
    go_upto_region 3 with fail
    refine wp_region_any (by kernel_rfl) ?_
    change wpAny _ _ _ _ _ _ _ (World.drew _)
    refine wpAny_of_heldS (S:=(fun W'=>W'.cell? ⟨SB,0,none⟩=some (.pointer (some ⟨IB,0,none⟩))∧W'.cell? ⟨b,o,none⟩=some (.int .i64 a))) ?_ (fun hHeld=>?_)
    · (try dsimp only) <;> (first | exact HSS.out _ hB0.drew | exact HSS.out _ (by assumption))
    refine tk 0 rfl ?_
    try simp only [Act.put,lyA,lyZ,lyS]
    refine tk 1 rfl ?_
    try simp only [Act.put,lyA,lyZ,lyS]
    refine tk 2 rfl ?_
    try simp only [Act.put,lyA,lyZ,lyS]
    refine tk 3 rfl ?_
    try simp only [Act.put,lyA,lyZ,lyS]
    refine tk 4 rfl ?_
    try simp only [Act.put,lyA,lyZ,lyS]
    refine tk 5 rfl ?_
    try simp only [Act.put,lyA,lyZ,lyS]
    refine tk 6 rfl ?_
    try simp only [Act.put,lyA,lyZ,lyS]
    refine tk 7 rfl ?_
    try simp only [Act.put,lyA,lyZ,lyS]
    refine tk 8 rfl ?_
    try simp only [Act.put,lyA,lyZ,lyS]
    refine tk 9 rfl ?_
    try simp only [Act.put,lyA,lyZ,lyS]
    refine tk 10 rfl ?_
    try simp only [Act.put,lyA,lyZ,lyS]
    refine tk 11 rfl ?_
    try simp only [Act.put,lyA,lyZ,lyS]
    refine rdy [12] ?_
    refine rdC rfl (fun K hK=>?_) ?_
    (go_simp;(with_reducible refine (HTx.out).mono ?_);rintro e w9 ⟨rfl,g9⟩;have hB9:Below w.heap.size w w9:=below_ch hB0.drew g9;go_wp2_with fail)
    refine hK.out _ _ ?_ (fun hH1=>?_)
    · (try dsimp only) <;> (first | exact HSS.out _ hB0.drew | exact HSS.out _ (by assumption))
    clear hK K hHeld
    try simp only [Act.put,lyA,lyZ,lyS]
    refine tk 13 rfl ?_
    try simp only [Act.put,lyA,lyZ,lyS]
    refine wpAnyH_done (by kernel_rfl) ?_ _
    rotate_left
    exact AllReadyH.nil
    all_goals
      go_wp2_with fail
      go_ret
      exact ⟨rfl,hB9⟩
  · have HTx:=Lib.hid (HT.out w.drew hB0.drew (some ⟨b,o+1,none⟩) (c - 1) (.inl ⟨rfl,rfl⟩))
    have hc2:(1:Int)≤(c:Int):=by omega
    have hc3:(1:Int)≤(n:Int)+1:=by omega
    clear HT
    go_upto_region 3 with fail
    refine wp_region_any (by kernel_rfl) ?_
    change wpAny _ _ _ _ _ _ _ (World.drew _)
    refine wpAny_of_heldS (S:=(fun W'=>W'.cell? ⟨SB,0,none⟩=some (.pointer (some ⟨IB,0,none⟩))∧W'.cell? ⟨b,o,none⟩=some (.int .i64 a))) ?_ (fun hHeld=>?_)
    · (try dsimp only) <;> (first | exact HSS.out _ hB0.drew | exact HSS.out _ (by assumption))
    refine tk 0 rfl ?_
    try simp only [Act.put,lyA,lyZ,lyS]
    refine tk 1 rfl ?_
    try simp only [Act.put,lyA,lyZ,lyS]
    refine tk 2 rfl ?_
    try simp only [Act.put,lyA,lyZ,lyS]
    refine tk 3 rfl ?_
    try simp only [Act.put,lyA,lyZ,lyS]
    refine tk 4 rfl ?_
    try simp only [Act.put,lyA,lyZ,lyS]
    refine tk 5 rfl ?_
    try simp only [Act.put,lyA,lyZ,lyS]
    refine tk 6 rfl ?_
    try simp only [Act.put,lyA,lyZ,lyS]
    refine tk 7 rfl ?_
    try simp only [Act.put,lyA,lyZ,lyS]
    refine tk 8 rfl ?_
    try simp only [Act.put,lyA,lyZ,lyS]
    refine tk 9 rfl ?_
    try simp only [Act.put,lyA,lyZ,lyS]
    refine tk 10 rfl ?_
    try simp only [Act.put,lyA,lyZ,lyS]
    refine tk 11 rfl ?_
    try simp only [Act.put,lyA,lyZ,lyS]
    refine rdy [12] ?_
    refine rdC rfl (fun K hK=>?_) ?_
    (go_simp;(with_reducible refine (HTx.out).mono ?_);rintro e w9 ⟨rfl,g9⟩;have hB9:Below w.heap.size w w9:=below_ch hB0.drew g9;go_wp2_with fail)
    refine hK.out _ _ ?_ (fun hH1=>?_)
    · (try dsimp only) <;> (first | exact HSS.out _ hB0.drew | exact HSS.out _ (by assumption))
    clear hK K hHeld
    try simp only [Act.put,lyA,lyZ,lyS]
    refine tk 13 rfl ?_
    try simp only [Act.put,lyA,lyZ,lyS]
    refine wpAnyH_done (by kernel_rfl) ?_ _
    rotate_left
    exact AllReadyH.nil
    all_goals
      go_wp2_with fail
      go_ret
      exact ⟨rfl,hB9⟩
structure Del (P:Int→Bool) (l cur:List Int) (i j:Nat):Prop where
 len:cur.length=l.length
 lt:i<j
 le:j≤l.length
 fst:cur.take i=(l.take j).filter fun x=>!P x
 rst:∀ k,j≤k→cur[k]? = l[k]?
theorem Del.start {P:Int→Bool} {l:List Int} {i:Nat} (hi:i<l.length) (hp:P l[i]=true) (hno:∀ k (hk:k<l.length),k<i→P l[k]=false):Del P l l i (i+1):=by
 refine ⟨rfl,by omega,by omega,?_,fun _ _=>rfl⟩
 rw [List.take_succ_eq_append_getElem hi,List.filter_append]
 have e:([l[i]]).filter (fun x=>!P x)=[]:=by simp [hp]
 rw [e,List.append_nil]
 refine (List.filter_eq_self.2 fun x hx=>?_).symm
 obtain ⟨k,hk,rfl⟩:=List.getElem_of_mem hx
 rw [List.length_take] at hk
 rw [List.getElem_take,hno k (by omega) (by omega)];rfl
theorem Del.keep {P:Int→Bool} {l cur:List Int} {i j:Nat} (h:Del P l cur i j) (hj:j<l.length) (hp:P l[j]=false):Del P l (cur.set i l[j]) (i+1) (j+1):=by
 have hl:=h.len
 have hlt:=h.lt
 refine ⟨by rw [List.length_set];exact hl,by omega,by omega,?_,fun k hk=>?_⟩
 · rw [List.take_succ_eq_append_getElem (by rw [List.length_set];omega),List.take_set_of_le (Nat.le_refl _),h.fst,List.take_succ_eq_append_getElem hj,List.filter_append,List.getElem_set_self]
   congr 1
   simp [hp]
 · rw [List.getElem?_set_ne (by omega)]
   exact h.rst k (by omega)
theorem Del.skip {P:Int→Bool} {l cur:List Int} {i j:Nat} (h:Del P l cur i j) (hj:j<l.length) (hp:P l[j]=true):Del P l cur i (j+1):=by
 have hlt:=h.lt
 refine ⟨h.len,by omega,by omega,?_,fun k hk=>h.rst k (by omega)⟩
 rw [h.fst,List.take_succ_eq_append_getElem hj,List.filter_append]
 have e:([l[j]]).filter (fun x=>!P x)=[]:=by simp [hp]
 rw [e,List.append_nil]
theorem Del.done {P:Int→Bool} {l cur:List Int} {i:Nat} (h:Del P l cur i l.length):cur.take i=l.filter fun x=>!P x:=by
 rw [h.fst,List.take_length]
theorem own_cut {N:Nat} {e:TypeId} {g n c i:Nat} {w:World} {xs:List Value} (h:w.ownsRow N e 1 (.slice (some ⟨g,0,none⟩) n c) n xs) (hi:i≤n):w.ownsRow N e 1 (.slice (some ⟨g,0,none⟩) i c) i (xs.take i):=by
 obtain ⟨h1,h2⟩:=h
 rcases h2 with ⟨h0,_⟩ | ⟨g',c',cur,hv,hg,hh,hn,hcap,hsz,ht⟩
 · cases h0
 · cases hv
   refine ⟨by rw [List.length_take];omega,.inr ⟨g,c,cur,rfl,hg,hh,by omega,hcap,hsz,?_⟩⟩
   rw [← ht,List.take_take,Nat.min_eq_left (by omega),Nat.mul_one]
theorem own_past {N:Nat} {e:TypeId} {g c i:Nat} {xs:List Value}:∀ (vs:List Value) (o:Nat) {w:World},w.ownsRow N e 1 (.slice (some ⟨g,0,none⟩) i c) i xs→i≤o→(w.setCells g o vs).ownsRow N e 1 (.slice (some ⟨g,0,none⟩) i c) i xs
 | [],_,_,h,_=>h
 | v :: t,o,w,h,ho=>by
   refine own_past t (o+1) ?_ (by omega)
   have:=(h.stored o v).1
   rwa [List.set_eq_of_length_le (by rw [h.1];omega)] at this
theorem below_past {N g:Nat} (hg:N≤g) {a:World}:∀ (vs:List Value) (o:Nat) {w:World},Below N a w→Below N a (w.setCells g o vs)
 | [],_,_,h=>h
 | v :: t,o,w,h=>below_past hg t (o+1) (h.setCell (p:=⟨g,o,none⟩) hg v)
def IdxQ (P:Int→Bool) (l:List Int) (w:World) (e:Ending) (w':World):Prop:=∃ i:Int,e=.returned (.int .i64 i)∧((i=-1∧∀ j (hj:j<l.length),P l[j]=false)∨∃ k:Nat,∃ hk:k<l.length,i=k∧P l[k]=true∧∀ j (hj:j<l.length),j<k→P l[j]=false)∧Below w.heap.size w w'
def DelP (P:Int→Bool) (l:List Int) (N:Nat) (w:World) (e:Ending) (w':World):Prop:=∃ v',e=.returned v'∧w'.ownsRow N 3 1 v' (l.filter fun x=>!P x).length (nums (l.filter fun x=>!P x))∧Below N w w'
theorem zero_int (w:World):(zeroValue 3).run Tryz.prog w=.ok (.int .i64 0) w:=by kernel_rfl
set_option maxHeartbeats 1000000 in
theorem findEn_any (P:Int→Bool) (l:List Int) (v:Value) (B4 B5:Nat) (w:World) (h:RowIn w v l) (hl:l.length≤100000)
   (hK:∀ wx,Below w.heap.size w wx→∀ x ∈ l,Calls Tryz.prog 75 #[.int .i64 x,.pointer (some (.mk B4 0 none)),.pointer (some (.mk B5 0 none))] wx fun e w'=>e=.returned (.bool (P x))∧Below wx.heap.size wx w') :
   Calls Tryz.prog 97 #[v,.func (.func 75) #[] #[.pointer (some (.mk B4 0 none)),.pointer (some (.mk B5 0 none))]] w (IdxQ P l w):=by
 have HK:=Lib.hid hK
 have HR:=Lib.hid (fun (wx:World) (g:Below w.heap.size w wx)=>(h.below g).len)
 obtain ⟨a,c,rfl,hc,_⟩:=h.len
 obtain ⟨n,hn⟩:∃ n,l.length=n:=⟨_,rfl⟩
 have HN:=Lib.hid hn
 rw [hn] at hl hc ⊢
 clear h hK hn
 go_enter Tryz.func97,Tryz.ntmps97
 go_wp2_with fail
 go_loopw [8] (fun i wr=>∃ k':Nat,k'≤n∧i=.int .i64 k'∧Below w.heap.size w wr∧∀ j (hj:j<l.length),j<k'→P l[j]=false) (fun i _=>n - (intOf i).toNat)
 case atStart=>exact ⟨0,by omega,rfl,Below.refl _ _,fun j _ hj=>by omega⟩
 case round =>
  obtain ⟨wo,rfl⟩:∃ wo:World,wo=wr:=⟨_,rfl⟩
  obtain ⟨i,hi,rfl,hb,hno⟩:=hrel
  have HB:=Lib.hid hb
  have HNo:=Lib.hid hno
  clear hb hno
  by_cases hlt:i<n
  · have hil:i<l.length:=by rw [HN.out];exact hlt
    obtain ⟨a',c',e,_,q⟩:=HR.out wo HB.out
    obtain ⟨b1,o1,ea,hbl,hcl⟩:=q i hil
    simp only [Value.slice.injEq] at e
    obtain ⟨rfl,e',rfl⟩:=e
    clear e'
    subst ea
    have hI:(i:Int)<(n:Int):=by omega
    have hI0:(0:Int)≤(i:Int):=by omega
    have HKv:=Lib.hid (HK.out wo HB.out (l[i]'hil) (List.getElem_mem hil))
    have HS:Hid (∀ b,P (l[i]'hil)=b→(b=true→∃ k:Nat,∃ hk:k<l.length,(i:Int)=k∧P l[k]=true∧∀ j (hj:j<l.length),j<k→P l[j]=false)∧(b=false→∀ j (hj:j<l.length),j<i+1→P l[j]=false)):=fun b hb=>⟨fun ht=>⟨i,hil,rfl,by rw [hb,ht],HNo.out⟩,fun hf j hj hji=>by
      by_cases e:j=i
      · subst e;rw [hb,hf]
      · exact HNo.out j hj (by omega)⟩
    obtain ⟨y,hy⟩:∃ y,l[i]'hil=y:=⟨_,rfl⟩
    rw [hy] at hcl HKv
    obtain ⟨b,hb⟩:∃ b,P y=b:=⟨_,rfl⟩
    rw [hb] at HKv
    have HSb:=Lib.hid (HS.out b (by rw [hy];exact hb))
    clear q hb HS hy
    cases b with
    | true =>
     go_wp2_with fail
     (with_reducible refine (HKv.out).mono ?_)
     rintro e w5 ⟨rfl,g5⟩
     go_wp2_with fail
     go_ret
     exact ⟨_,rfl,.inr (HSb.out.1 (by trivial)),below_ch HB.out g5⟩
    | false =>
     go_wp2_with fail
     (with_reducible refine (HKv.out).mono ?_)
     rintro e w5 ⟨rfl,g5⟩
     go_wp2_with fail
     go_roundw
     case rel=>exact ⟨i+1,by omega,by go_num,below_ch HB.out g5,HSb.out.2 (by trivial)⟩
     case measure=>simp [intOf] <;> omega
  · have hA:Hid (∀ j (hj:j<l.length),P l[j]=false):=Lib.hid fun j hj=>HNo.out j hj (by have:=HN.out;omega)
    go_wp2_with fail
    go_ret
    exact ⟨-1,rfl,.inl ⟨rfl,hA.out⟩,HB.out⟩
set_option maxHeartbeats 1000000 in
theorem findAc_any (P:Int→Bool) (l:List Int) (v:Value)  (w:World) (h:RowIn w v l) (hl:l.length≤100000)
   (hK:∀ wx,Below w.heap.size w wx→∀ x ∈ l,Calls Tryz.prog 78 #[.int .i64 x] wx fun e w'=>e=.returned (.bool (P x))∧Below wx.heap.size wx w') :
   Calls Tryz.prog 97 #[v,.func (.func 78) #[] #[]] w (IdxQ P l w):=by
 have HK:=Lib.hid hK
 have HR:=Lib.hid (fun (wx:World) (g:Below w.heap.size w wx)=>(h.below g).len)
 obtain ⟨a,c,rfl,hc,_⟩:=h.len
 obtain ⟨n,hn⟩:∃ n,l.length=n:=⟨_,rfl⟩
 have HN:=Lib.hid hn
 rw [hn] at hl hc ⊢
 clear h hK hn
 go_enter Tryz.func97,Tryz.ntmps97
 go_wp2_with fail
 go_loopw [8] (fun i wr=>∃ k':Nat,k'≤n∧i=.int .i64 k'∧Below w.heap.size w wr∧∀ j (hj:j<l.length),j<k'→P l[j]=false) (fun i _=>n - (intOf i).toNat)
 case atStart=>exact ⟨0,by omega,rfl,Below.refl _ _,fun j _ hj=>by omega⟩
 case round =>
  obtain ⟨wo,rfl⟩:∃ wo:World,wo=wr:=⟨_,rfl⟩
  obtain ⟨i,hi,rfl,hb,hno⟩:=hrel
  have HB:=Lib.hid hb
  have HNo:=Lib.hid hno
  clear hb hno
  by_cases hlt:i<n
  · have hil:i<l.length:=by rw [HN.out];exact hlt
    obtain ⟨a',c',e,_,q⟩:=HR.out wo HB.out
    obtain ⟨b1,o1,ea,hbl,hcl⟩:=q i hil
    simp only [Value.slice.injEq] at e
    obtain ⟨rfl,e',rfl⟩:=e
    clear e'
    subst ea
    have hI:(i:Int)<(n:Int):=by omega
    have hI0:(0:Int)≤(i:Int):=by omega
    have HKv:=Lib.hid (HK.out wo HB.out (l[i]'hil) (List.getElem_mem hil))
    have HS:Hid (∀ b,P (l[i]'hil)=b→(b=true→∃ k:Nat,∃ hk:k<l.length,(i:Int)=k∧P l[k]=true∧∀ j (hj:j<l.length),j<k→P l[j]=false)∧(b=false→∀ j (hj:j<l.length),j<i+1→P l[j]=false)):=fun b hb=>⟨fun ht=>⟨i,hil,rfl,by rw [hb,ht],HNo.out⟩,fun hf j hj hji=>by
      by_cases e:j=i
      · subst e;rw [hb,hf]
      · exact HNo.out j hj (by omega)⟩
    obtain ⟨y,hy⟩:∃ y,l[i]'hil=y:=⟨_,rfl⟩
    rw [hy] at hcl HKv
    obtain ⟨b,hb⟩:∃ b,P y=b:=⟨_,rfl⟩
    rw [hb] at HKv
    have HSb:=Lib.hid (HS.out b (by rw [hy];exact hb))
    clear q hb HS hy
    cases b with
    | true =>
     go_wp2_with fail
     (with_reducible refine (HKv.out).mono ?_)
     rintro e w5 ⟨rfl,g5⟩
     go_wp2_with fail
     go_ret
     exact ⟨_,rfl,.inr (HSb.out.1 (by trivial)),below_ch HB.out g5⟩
    | false =>
     go_wp2_with fail
     (with_reducible refine (HKv.out).mono ?_)
     rintro e w5 ⟨rfl,g5⟩
     go_wp2_with fail
     go_roundw
     case rel=>exact ⟨i+1,by omega,by go_num,below_ch HB.out g5,HSb.out.2 (by trivial)⟩
     case measure=>simp [intOf] <;> omega
  · have hA:Hid (∀ j (hj:j<l.length),P l[j]=false):=Lib.hid fun j hj=>HNo.out j hj (by have:=HN.out;omega)
    go_wp2_with fail
    go_ret
    exact ⟨-1,rfl,.inl ⟨rfl,hA.out⟩,HB.out⟩
set_option maxHeartbeats 1000000 in
theorem findCo_any (P:Int→Bool) (l:List Int) (v:Value) (B4 B5:Nat) (w:World) (h:RowIn w v l) (hl:l.length≤100000)
   (hK:∀ wx,Below w.heap.size w wx→∀ x ∈ l,Calls Tryz.prog 80 #[.int .i64 x,.pointer (some (.mk B4 0 none)),.pointer (some (.mk B5 0 none))] wx fun e w'=>e=.returned (.bool (P x))∧Below wx.heap.size wx w') :
   Calls Tryz.prog 97 #[v,.func (.func 80) #[] #[.pointer (some (.mk B4 0 none)),.pointer (some (.mk B5 0 none))]] w (IdxQ P l w):=by
 have HK:=Lib.hid hK
 have HR:=Lib.hid (fun (wx:World) (g:Below w.heap.size w wx)=>(h.below g).len)
 obtain ⟨a,c,rfl,hc,_⟩:=h.len
 obtain ⟨n,hn⟩:∃ n,l.length=n:=⟨_,rfl⟩
 have HN:=Lib.hid hn
 rw [hn] at hl hc ⊢
 clear h hK hn
 go_enter Tryz.func97,Tryz.ntmps97
 go_wp2_with fail
 go_loopw [8] (fun i wr=>∃ k':Nat,k'≤n∧i=.int .i64 k'∧Below w.heap.size w wr∧∀ j (hj:j<l.length),j<k'→P l[j]=false) (fun i _=>n - (intOf i).toNat)
 case atStart=>exact ⟨0,by omega,rfl,Below.refl _ _,fun j _ hj=>by omega⟩
 case round =>
  obtain ⟨wo,rfl⟩:∃ wo:World,wo=wr:=⟨_,rfl⟩
  obtain ⟨i,hi,rfl,hb,hno⟩:=hrel
  have HB:=Lib.hid hb
  have HNo:=Lib.hid hno
  clear hb hno
  by_cases hlt:i<n
  · have hil:i<l.length:=by rw [HN.out];exact hlt
    obtain ⟨a',c',e,_,q⟩:=HR.out wo HB.out
    obtain ⟨b1,o1,ea,hbl,hcl⟩:=q i hil
    simp only [Value.slice.injEq] at e
    obtain ⟨rfl,e',rfl⟩:=e
    clear e'
    subst ea
    have hI:(i:Int)<(n:Int):=by omega
    have hI0:(0:Int)≤(i:Int):=by omega
    have HKv:=Lib.hid (HK.out wo HB.out (l[i]'hil) (List.getElem_mem hil))
    have HS:Hid (∀ b,P (l[i]'hil)=b→(b=true→∃ k:Nat,∃ hk:k<l.length,(i:Int)=k∧P l[k]=true∧∀ j (hj:j<l.length),j<k→P l[j]=false)∧(b=false→∀ j (hj:j<l.length),j<i+1→P l[j]=false)):=fun b hb=>⟨fun ht=>⟨i,hil,rfl,by rw [hb,ht],HNo.out⟩,fun hf j hj hji=>by
      by_cases e:j=i
      · subst e;rw [hb,hf]
      · exact HNo.out j hj (by omega)⟩
    obtain ⟨y,hy⟩:∃ y,l[i]'hil=y:=⟨_,rfl⟩
    rw [hy] at hcl HKv
    obtain ⟨b,hb⟩:∃ b,P y=b:=⟨_,rfl⟩
    rw [hb] at HKv
    have HSb:=Lib.hid (HS.out b (by rw [hy];exact hb))
    clear q hb HS hy
    cases b with
    | true =>
     go_wp2_with fail
     (with_reducible refine (HKv.out).mono ?_)
     rintro e w5 ⟨rfl,g5⟩
     go_wp2_with fail
     go_ret
     exact ⟨_,rfl,.inr (HSb.out.1 (by trivial)),below_ch HB.out g5⟩
    | false =>
     go_wp2_with fail
     (with_reducible refine (HKv.out).mono ?_)
     rintro e w5 ⟨rfl,g5⟩
     go_wp2_with fail
     go_roundw
     case rel=>exact ⟨i+1,by omega,by go_num,below_ch HB.out g5,HSb.out.2 (by trivial)⟩
     case measure=>simp [intOf] <;> omega
  · have hA:Hid (∀ j (hj:j<l.length),P l[j]=false):=Lib.hid fun j hj=>HNo.out j hj (by have:=HN.out;omega)
    go_wp2_with fail
    go_ret
    exact ⟨-1,rfl,.inl ⟨rfl,hA.out⟩,HB.out⟩
theorem hasCo_any (P:Int→Bool) (l:List Int) (v:Value) (B4 B5:Nat) (w:World) (h:RowIn w v l) (hl:l.length≤100000)
   (hK:∀ wx,Below w.heap.size w wx→∀ x ∈ l,Calls Tryz.prog 80 #[.int .i64 x,.pointer (some (.mk B4 0 none)),.pointer (some (.mk B5 0 none))] wx fun e w'=>e=.returned (.bool (P x))∧Below wx.heap.size wx w') :
   Calls Tryz.prog 56 #[v,.func (.func 80) #[] #[.pointer (some (.mk B4 0 none)),.pointer (some (.mk B5 0 none))]] w fun e w'=>e=.returned (.bool (l.any P))∧Below w.heap.size w w':=by
 have HC:=Lib.hid (findCo_any P l v B4 B5 w h hl hK)
 clear h hK
 go_enter Tryz.func56,Tryz.ntmps56
 go_wp2_with ((with_reducible refine (HC.out).mono ?_);rintro e w' ⟨i,rfl,hi,hb⟩)
 go_ret
 refine ⟨?_,hb⟩
 rcases hi with ⟨rfl,hno⟩ | ⟨k,hk,rfl,hp,_⟩
 · rw [any_no hno];rfl
 · rw [any_yes hk hp];simp
set_option maxRecDepth 100000 in
set_option maxHeartbeats 4000000 in
theorem thinEn_any (P:Int→Bool) (l:List Int) (v:Value) (B4 B5:Nat) (N:Nat) (w:World) (h:w.ownsRow N 3 1 v l.length (nums l)) (hN:N≤w.heap.size) (hl:l.length≤100000)
   (hK:∀ wx,Below N w wx→∀ x ∈ l,Calls Tryz.prog 75 #[.int .i64 x,.pointer (some (.mk B4 0 none)),.pointer (some (.mk B5 0 none))] wx fun e w'=>e=.returned (.bool (P x))∧Below wx.heap.size wx w') :
   Calls Tryz.prog 74 #[v,.func (.func 75) #[] #[.pointer (some (.mk B4 0 none)),.pointer (some (.mk B5 0 none))]] w (DelP P l N w):=by
 obtain ⟨a,c,rfl⟩:=ownsRow_slice h
 have HI:=Lib.hid (findEn_any P l (.slice a l.length c) B4 B5 w (RowIn.own h) hl (fun wx g=>hK wx (g.mono hN)))
 have HK:=Lib.hid hK
 have HO:=Lib.hid h
 obtain ⟨n,hn⟩:∃ n,l.length=n:=⟨_,rfl⟩
 have HN:=Lib.hid hn
 have HNw:=Lib.hid hN
 rw [hn] at HI HO hl ⊢
 clear h hK hn hN
 go_enter Tryz.func74,Tryz.ntmps74
 go_wp2_with fail
 (with_reducible refine (HI.out).mono ?_)
 rintro e w2 ⟨i,rfl,hi,g2⟩
 have HB2:Hid (Below N w w2):=Lib.hid (g2.mono HNw.out)
 have HO2:=Lib.hid (own_below HO.out g2)
 clear g2 HO HI
 rcases hi with ⟨rfl,hno⟩ | ⟨k,hk,rfl,hp,hno⟩
 · have HE:Hid (l.filter (fun x=>!P x)=l):=Lib.hid (List.filter_eq_self.2 fun x hx=>by
     obtain ⟨j,hj,rfl⟩:=List.getElem_of_mem hx
     rw [hno j hj];rfl)
   clear hno
   go_wp2_with fail
   go_ret
   unfold DelP
   rw [HE.out]
   exact ⟨_,rfl,by rw [HN.out];exact HO2.out,HB2.out⟩
 · have hkn:k<n:=by rw [← HN.out];exact hk
   obtain ⟨g,c',e⟩:=ownsRow_pos HO2.out (by omega)
   simp only [Value.slice.injEq,true_and] at e
   obtain ⟨rfl,rfl⟩:=e
   have hcap:=ownsRow_capL HO2.out
   have hd:((k:Int) == -1)=false:=by rw [beq_eq_false_iff_ne];omega
   have HD:=Lib.hid (Del.start hk hp hno)
   have HZ:Hid (∀ (wo:World) (cur:List Int) (i:Nat),wo.ownsRow N 3 1 (.slice (some ⟨g,0,none⟩) n c) n (nums cur)→i<n→∀ ty,(Builtin.clear_ #[29] ty #[.slice (some ⟨g,i,none⟩) (n - i) (c - i)]).run Tryz.prog wo=.ok (.tuple #[]) (wo.setCells g i (List.replicate (n - i) (.int .i64 0)))):=Lib.hid fun wo cur i ho hi ty=>by
     refine Lib.run_clear_slice wo _ _ ty _ Tryz.underlying29 zero_int rfl rfl g i _ _ (by omega) (fun t ht=>?_) (fun t ht=>?_)
     · rw [ho.cellAt (i+t) (by omega),List.getElem?_eq_getElem (by rw [ho.1];omega)];rfl
     · exact ho.frozenAt (i+t)
   clear hp hno hk
   go_wp2_with fail
   go_loopw [5,6] (fun i j wr=>∃ (i' j':Nat) (cur:List Int),i=.int .i64 i'∧j=.int .i64 j'∧Del P l cur i' j'∧Below N w wr∧wr.ownsRow N 3 1 (.slice (some ⟨g,0,none⟩) n c) n (nums cur)) (fun _ j _=>n - (intOf j).toNat)
   case atStart=>exact ⟨k,k+1,l,rfl,by go_num,HD.out,HB2.out,HO2.out⟩
   case round =>
    obtain ⟨wo,rfl⟩:∃ wo:World,wo=wr:=⟨_,rfl⟩
    obtain ⟨i,j,cur,rfl,rfl,hD,hb,ho⟩:=hrel
    have hij:=hD.lt
    have hjn:j≤n:=by rw [← HN.out];exact hD.le
    have HDo:=Lib.hid hD
    have HBo:=Lib.hid hb
    have HOo:=Lib.hid ho
    have hgN:=(ho.lt g rfl).1
    have hNo:N≤wo.heap.size:=Nat.le_trans HNw.out hb.size
    clear hD hb ho HD HB2 HO2
    by_cases hlt:j<n
    · have hjl:j<l.length:=by rw [HN.out];exact hlt
      have hI:(j:Int)<(n:Int):=by omega
      have hI0:(0:Int)≤(j:Int):=by omega
      have hi1:(i:Int)<(n:Int):=by omega
      have hi0:(0:Int)≤(i:Int):=by omega
      have cj:wo.cell? ⟨g,j,none⟩=some (.int .i64 l[j]):=(HOo.out.cellAt j (by omega)).trans (by
        unfold nums
        rw [List.getElem?_map,HDo.out.rst j (Nat.le_refl _),List.getElem?_eq_getElem hjl];rfl)
      have HKv:=Lib.hid (HK.out wo HBo.out l[j] (List.getElem_mem hjl))
      have HSk:=Lib.hid (fun hp=>HDo.out.keep hjl hp)
      have HSs:=Lib.hid (fun hp=>HDo.out.skip hjl hp)
      have HLc:Hid (cur.length=n):=Lib.hid (by rw [HDo.out.len];exact HN.out)
      obtain ⟨y,hy⟩:∃ y,l[j]=y:=⟨_,rfl⟩
      rw [hy] at cj HKv HSk HSs
      clear hy HDo
      cases hp:P y with
      | false =>
       rw [hp] at HKv
       have HDn:=Lib.hid (HSk.out hp)
       clear HSk HSs hp
       go_wp2_with fail
       (with_reducible refine (HKv.out).mono ?_)
       rintro e w5 ⟨rfl,g5⟩
       have HO5:=Lib.hid (own_below HOo.out g5)
       have HB5:=Lib.hid (HBo.out.trans (g5.mono hNo))
       obtain ⟨x,hx⟩:∃ x,(nums cur)[i]? = some x:=⟨_,List.getElem?_eq_getElem (by unfold nums;rw [List.length_map,HLc.out];omega)⟩
       have ci:w5.cell? ⟨g,i,none⟩=some x:=(HO5.out.cellAt i (by omega)).trans hx
       have fi:=HO5.out.frozenAt i
       have HFin:Hid (Below N w (w5.setCell ⟨g,i,none⟩ (.int .i64 y))∧(w5.setCell ⟨g,i,none⟩ (.int .i64 y)).ownsRow N 3 1 (.slice (some ⟨g,0,none⟩) n c) n (nums (cur.set i y))):=Lib.hid ⟨HB5.out.setCell (p:=⟨g,i,none⟩) hgN _,by rw [nums_set];exact (HO5.out.stored i (.int .i64 y)).1⟩
       clear hx HOo HBo HO5 HB5 g5 cj
       go_wp2_with fail
       go_roundw
       case rel=>exact ⟨i+1,j+1,_,by go_num,by go_num,HDn.out,HFin.out⟩
       case measure=>simp [intOf] <;> omega
      | true =>
       rw [hp] at HKv
       have HDn:=Lib.hid (HSs.out hp)
       clear HSk HSs hp
       go_wp2_with fail
       (with_reducible refine (HKv.out).mono ?_)
       rintro e w5 ⟨rfl,g5⟩
       go_wp2_with fail
       go_roundw
       case rel=>exact ⟨i,j+1,cur,rfl,by go_num,HDn.out,HBo.out.trans (g5.mono hNo),own_below HOo.out g5⟩
       case measure=>simp [intOf] <;> omega
    · obtain rfl:n=j:=by omega
      have hcl:=HZ.out wo cur i HOo.out hij
      have HDe:Hid (cur.take i=l.filter fun x=>!P x):=Lib.hid (by have:=HDo.out;rw [← HN.out] at this;exact this.done)
      have HLc:Hid (cur.length=n):=Lib.hid (by rw [HDo.out.len];exact HN.out)
      have hi1:(i:Int)<(n:Int):=by omega
      have hi0:(0:Int)≤(i:Int):=by omega
      clear HDo hlt
      go_wp2_with fail
      go_ret
      have e1:=own_past (List.replicate (n - i) (.int .i64 0)) i (own_cut HOo.out (i:=i) (by omega)) (Nat.le_refl _)
      have e2:(nums cur).take i=nums (l.filter fun x=>!P x):=by rw [← HDe.out];unfold nums;rw [List.map_take]
      have e3:(l.filter fun x=>!P x).length=i:=by rw [← HDe.out,List.length_take,HLc.out];omega
      rw [e2] at e1
      unfold DelP
      rw [e3]
      exact ⟨_,rfl,e1,below_past hgN _ _ HBo.out⟩
set_option maxRecDepth 100000 in
set_option maxHeartbeats 4000000 in
theorem thinAc_any (P:Int→Bool) (l:List Int) (v:Value)  (N:Nat) (w:World) (h:w.ownsRow N 3 1 v l.length (nums l)) (hN:N≤w.heap.size) (hl:l.length≤100000)
   (hK:∀ wx,Below N w wx→∀ x ∈ l,Calls Tryz.prog 78 #[.int .i64 x] wx fun e w'=>e=.returned (.bool (P x))∧Below wx.heap.size wx w') :
   Calls Tryz.prog 74 #[v,.func (.func 78) #[] #[]] w (DelP P l N w):=by
 obtain ⟨a,c,rfl⟩:=ownsRow_slice h
 have HI:=Lib.hid (findAc_any P l (.slice a l.length c)  w (RowIn.own h) hl (fun wx g=>hK wx (g.mono hN)))
 have HK:=Lib.hid hK
 have HO:=Lib.hid h
 obtain ⟨n,hn⟩:∃ n,l.length=n:=⟨_,rfl⟩
 have HN:=Lib.hid hn
 have HNw:=Lib.hid hN
 rw [hn] at HI HO hl ⊢
 clear h hK hn hN
 go_enter Tryz.func74,Tryz.ntmps74
 go_wp2_with fail
 (with_reducible refine (HI.out).mono ?_)
 rintro e w2 ⟨i,rfl,hi,g2⟩
 have HB2:Hid (Below N w w2):=Lib.hid (g2.mono HNw.out)
 have HO2:=Lib.hid (own_below HO.out g2)
 clear g2 HO HI
 rcases hi with ⟨rfl,hno⟩ | ⟨k,hk,rfl,hp,hno⟩
 · have HE:Hid (l.filter (fun x=>!P x)=l):=Lib.hid (List.filter_eq_self.2 fun x hx=>by
     obtain ⟨j,hj,rfl⟩:=List.getElem_of_mem hx
     rw [hno j hj];rfl)
   clear hno
   go_wp2_with fail
   go_ret
   unfold DelP
   rw [HE.out]
   exact ⟨_,rfl,by rw [HN.out];exact HO2.out,HB2.out⟩
 · have hkn:k<n:=by rw [← HN.out];exact hk
   obtain ⟨g,c',e⟩:=ownsRow_pos HO2.out (by omega)
   simp only [Value.slice.injEq,true_and] at e
   obtain ⟨rfl,rfl⟩:=e
   have hcap:=ownsRow_capL HO2.out
   have hd:((k:Int) == -1)=false:=by rw [beq_eq_false_iff_ne];omega
   have HD:=Lib.hid (Del.start hk hp hno)
   have HZ:Hid (∀ (wo:World) (cur:List Int) (i:Nat),wo.ownsRow N 3 1 (.slice (some ⟨g,0,none⟩) n c) n (nums cur)→i<n→∀ ty,(Builtin.clear_ #[29] ty #[.slice (some ⟨g,i,none⟩) (n - i) (c - i)]).run Tryz.prog wo=.ok (.tuple #[]) (wo.setCells g i (List.replicate (n - i) (.int .i64 0)))):=Lib.hid fun wo cur i ho hi ty=>by
     refine Lib.run_clear_slice wo _ _ ty _ Tryz.underlying29 zero_int rfl rfl g i _ _ (by omega) (fun t ht=>?_) (fun t ht=>?_)
     · rw [ho.cellAt (i+t) (by omega),List.getElem?_eq_getElem (by rw [ho.1];omega)];rfl
     · exact ho.frozenAt (i+t)
   clear hp hno hk
   go_wp2_with fail
   go_loopw [5,6] (fun i j wr=>∃ (i' j':Nat) (cur:List Int),i=.int .i64 i'∧j=.int .i64 j'∧Del P l cur i' j'∧Below N w wr∧wr.ownsRow N 3 1 (.slice (some ⟨g,0,none⟩) n c) n (nums cur)) (fun _ j _=>n - (intOf j).toNat)
   case atStart=>exact ⟨k,k+1,l,rfl,by go_num,HD.out,HB2.out,HO2.out⟩
   case round =>
    obtain ⟨wo,rfl⟩:∃ wo:World,wo=wr:=⟨_,rfl⟩
    obtain ⟨i,j,cur,rfl,rfl,hD,hb,ho⟩:=hrel
    have hij:=hD.lt
    have hjn:j≤n:=by rw [← HN.out];exact hD.le
    have HDo:=Lib.hid hD
    have HBo:=Lib.hid hb
    have HOo:=Lib.hid ho
    have hgN:=(ho.lt g rfl).1
    have hNo:N≤wo.heap.size:=Nat.le_trans HNw.out hb.size
    clear hD hb ho HD HB2 HO2
    by_cases hlt:j<n
    · have hjl:j<l.length:=by rw [HN.out];exact hlt
      have hI:(j:Int)<(n:Int):=by omega
      have hI0:(0:Int)≤(j:Int):=by omega
      have hi1:(i:Int)<(n:Int):=by omega
      have hi0:(0:Int)≤(i:Int):=by omega
      have cj:wo.cell? ⟨g,j,none⟩=some (.int .i64 l[j]):=(HOo.out.cellAt j (by omega)).trans (by
        unfold nums
        rw [List.getElem?_map,HDo.out.rst j (Nat.le_refl _),List.getElem?_eq_getElem hjl];rfl)
      have HKv:=Lib.hid (HK.out wo HBo.out l[j] (List.getElem_mem hjl))
      have HSk:=Lib.hid (fun hp=>HDo.out.keep hjl hp)
      have HSs:=Lib.hid (fun hp=>HDo.out.skip hjl hp)
      have HLc:Hid (cur.length=n):=Lib.hid (by rw [HDo.out.len];exact HN.out)
      obtain ⟨y,hy⟩:∃ y,l[j]=y:=⟨_,rfl⟩
      rw [hy] at cj HKv HSk HSs
      clear hy HDo
      cases hp:P y with
      | false =>
       rw [hp] at HKv
       have HDn:=Lib.hid (HSk.out hp)
       clear HSk HSs hp
       go_wp2_with fail
       (with_reducible refine (HKv.out).mono ?_)
       rintro e w5 ⟨rfl,g5⟩
       have HO5:=Lib.hid (own_below HOo.out g5)
       have HB5:=Lib.hid (HBo.out.trans (g5.mono hNo))
       obtain ⟨x,hx⟩:∃ x,(nums cur)[i]? = some x:=⟨_,List.getElem?_eq_getElem (by unfold nums;rw [List.length_map,HLc.out];omega)⟩
       have ci:w5.cell? ⟨g,i,none⟩=some x:=(HO5.out.cellAt i (by omega)).trans hx
       have fi:=HO5.out.frozenAt i
       have HFin:Hid (Below N w (w5.setCell ⟨g,i,none⟩ (.int .i64 y))∧(w5.setCell ⟨g,i,none⟩ (.int .i64 y)).ownsRow N 3 1 (.slice (some ⟨g,0,none⟩) n c) n (nums (cur.set i y))):=Lib.hid ⟨HB5.out.setCell (p:=⟨g,i,none⟩) hgN _,by rw [nums_set];exact (HO5.out.stored i (.int .i64 y)).1⟩
       clear hx HOo HBo HO5 HB5 g5 cj
       go_wp2_with fail
       go_roundw
       case rel=>exact ⟨i+1,j+1,_,by go_num,by go_num,HDn.out,HFin.out⟩
       case measure=>simp [intOf] <;> omega
      | true =>
       rw [hp] at HKv
       have HDn:=Lib.hid (HSs.out hp)
       clear HSk HSs hp
       go_wp2_with fail
       (with_reducible refine (HKv.out).mono ?_)
       rintro e w5 ⟨rfl,g5⟩
       go_wp2_with fail
       go_roundw
       case rel=>exact ⟨i,j+1,cur,rfl,by go_num,HDn.out,HBo.out.trans (g5.mono hNo),own_below HOo.out g5⟩
       case measure=>simp [intOf] <;> omega
    · obtain rfl:n=j:=by omega
      have hcl:=HZ.out wo cur i HOo.out hij
      have HDe:Hid (cur.take i=l.filter fun x=>!P x):=Lib.hid (by have:=HDo.out;rw [← HN.out] at this;exact this.done)
      have HLc:Hid (cur.length=n):=Lib.hid (by rw [HDo.out.len];exact HN.out)
      have hi1:(i:Int)<(n:Int):=by omega
      have hi0:(0:Int)≤(i:Int):=by omega
      clear HDo hlt
      go_wp2_with fail
      go_ret
      have e1:=own_past (List.replicate (n - i) (.int .i64 0)) i (own_cut HOo.out (i:=i) (by omega)) (Nat.le_refl _)
      have e2:(nums cur).take i=nums (l.filter fun x=>!P x):=by rw [← HDe.out];unfold nums;rw [List.map_take]
      have e3:(l.filter fun x=>!P x).length=i:=by rw [← HDe.out,List.length_take,HLc.out];omega
      rw [e2] at e1
      unfold DelP
      rw [e3]
      exact ⟨_,rfl,e1,below_past hgN _ _ HBo.out⟩
set_option maxRecDepth 100000 in
set_option maxHeartbeats 2000000 in
theorem entries1_any {B:Nat} {m:MdlD} {SB:Nat} {w:World} (h:SetAt B m SB w) (h0:riM m=(0,0,0)) (v r:Int) (B4 B5:Nat) (h4:w.cell? ⟨B4,0,none⟩=some (.pointer (some ⟨SB,0,none⟩))) (h5:w.cell? ⟨B5,0,none⟩=some (.int .i64 r)) :
   Calls Tryz.prog 75 #[.int .i64 v,.pointer (some (.mk B4 0 none)),.pointer (some (.mk B5 0 none))] w fun e w'=>e=.returned (.bool (!inM m v r))∧Below w.heap.size w w':=by
 obtain ⟨IB,kv,hi,s0,s1,s2,hku,hz⟩:=h
 have HC:=Lib.hid (fun wx (g:Below w.heap.size w wx)=>in_any (hi.grown g) v r h0)
 have z4:=World.block_lt_of_cell? w _ h4
 have z5:=World.block_lt_of_cell? w _ h5
 have HSS:Hid (∀ W',Below w.heap.size w W'→W'.cell? ⟨B4,0,none⟩=some (.pointer (some ⟨SB,0,none⟩))∧W'.cell? ⟨B5,0,none⟩=some (.int .i64 r)∧W'.cell? ⟨SB,0,none⟩=some (.pointer (some ⟨IB,0,none⟩))):=Lib.hid fun W' g=>⟨(g.cell (p:=⟨B4,0,none⟩) z4).trans h4,(g.cell (p:=⟨B5,0,none⟩) z5).trans h5,(g.cell (p:=⟨SB,0,none⟩) hz).trans s0⟩
 have hB0:Below w.heap.size w w:=Below.refl _ _
 clear hi hku s0 s1 s2 h4 h5 h0 z4 z5 hz
 go_enter Tryz.func75,Tryz.ntmps75
 go_upto_region 1 with fail
 refine wp_region_any (by kernel_rfl) ?_
 change wpAny _ _ _ _ _ _ _ (World.drew _)
 refine wpAny_of_heldS (S:=(fun W'=>W'.cell? ⟨B4,0,none⟩=some (.pointer (some ⟨SB,0,none⟩))∧W'.cell? ⟨B5,0,none⟩=some (.int .i64 r)∧W'.cell? ⟨SB,0,none⟩=some (.pointer (some ⟨IB,0,none⟩)))) ?_ (fun hHeld=>?_)
 · (try dsimp only) <;> (first | exact HSS.out _ hB0.drew | exact HSS.out _ (by assumption))
 refine tk 0 rfl ?_
 try simp only [Act.put,lyA,lyZ,lyS]
 refine tk 1 rfl ?_
 try simp only [Act.put,lyA,lyZ,lyS]
 refine tk 2 rfl ?_
 try simp only [Act.put,lyA,lyZ,lyS]
 refine tk 3 rfl ?_
 try simp only [Act.put,lyA,lyZ,lyS]
 refine tk 4 rfl ?_
 try simp only [Act.put,lyA,lyZ,lyS]
 refine tk 5 rfl ?_
 try simp only [Act.put,lyA,lyZ,lyS]
 refine rdy [6] ?_
 refine rdC rfl (fun K hK=>?_) ?_
 (go_simp;(with_reducible refine (HC.out _ hB0.drew).mono ?_);rintro e w9 ⟨rfl,g9⟩;have hB9:Below w.heap.size w w9:=below_ch hB0.drew g9;go_wp2_with fail)
 refine hK.out _ _ ?_ (fun hH1=>?_)
 · (try dsimp only) <;> (first | exact HSS.out _ hB0.drew | exact HSS.out _ (by assumption))
 clear hK K hHeld
 try simp only [Act.put,lyA,lyZ,lyS]
 refine tk 7 rfl ?_
 try simp only [Act.put,lyA,lyZ,lyS]
 refine tk 8 rfl ?_
 try simp only [Act.put,lyA,lyZ,lyS]
 refine wpAnyH_done (by kernel_rfl) ?_ _
 rotate_left
 exact AllReadyH.nil
 all_goals
   go_wp2_with fail
   go_ret
   exact ⟨rfl,hB9⟩
theorem entX_no {m:MdlD} {r e:Int} (h:r<0∨inM m e r=false):entX m r e=[]:=by
 unfold entX
 split
 · rfl
 · unfold entM
   rw [(h.resolve_left (by omega)),if_neg (by decide)]
theorem entX_yes {m:MdlD} {r e:Int} (h:¬ r<0) (hi:inM m e r=true):entX m r e=((chainM m e).filter fun x=>!(fun v=>!inM m v r) x) ++ (if stands m e then [e] else []):=by
 unfold entX
 rw [if_neg h]
 unfold entM
 rw [hi,if_pos rfl]
 simp only [Bool.not_not]
theorem chainM_le {m:MdlD} (h0:riM m=(0,0,0)) (v:Int):(chainM m v).length≤64:=by
 cases hv:hasV m v with
 | false=>unfold chainM;rw [hv];simp
 | true =>
  obtain ⟨k,rfl,hk⟩:=hasV_nat hv
  rw [chainM_len h0 hk]
  exact deep_right h0 hk
set_option maxRecDepth 100000 in
set_option maxHeartbeats 4000000 in
theorem entries_any {B:Nat} {m:MdlD} {SB:Nat} {w:World} (h:SetAt B m SB w) (h0:riM m=(0,0,0)) (r e:Int) :
   Calls Tryz.prog 24 #[.pointer (some ⟨SB,0,none⟩),.int .i64 r,.int .i64 e] w (RowP (entX m r e) w):=by
 obtain ⟨iI,hiI,zI0,zI1,zI2⟩:=info_parts info_Num
 unfold RowP
 have HB1:Hid (Below w.heap.size w ((w.alloc (.cells #[.pointer (some ⟨SB,0,none⟩)] 46)).alloc (.cells #[.int .i64 r] 3))):=Lib.hid (below_al2 w _ _)
 obtain ⟨t4,t5,_,tz⟩:=two_allocs_c w (.pointer (some ⟨SB,0,none⟩)) (.int .i64 r) 46 3
 have HA:=Lib.hid (fun wx (g:Below w.heap.size w wx)=>h.grown g)
 have HX0:=Lib.hid (fun hh=>entX_no (m:=m) (r:=r) (e:=e) hh)
 have HX1:=Lib.hid (fun h1 h2=>entX_yes (m:=m) (r:=r) (e:=e) h1 h2)
 have HCl:=Lib.hid (chainM_le h0 e)
 have HFl:=Lib.hid (List.length_filter_le (fun x=>!(fun v=>!inM m v r) x) (chainM m e))
 have CH:=Lib.hid (fun wx IB (hi:IdxAt B m IB wx)=>chain_any hi e h0)
 have IN:=Lib.hid (fun wx IB (hi:IdxAt B m IB wx)=>in_any hi e r h0)
 have E1:=Lib.hid (fun wx (hs:SetAt B m SB wx) (x:Int) B4 B5 h4 h5=>entries1_any hs h0 x r B4 B5 h4 h5)
 have IS:=Lib.hid (fun wx (hs:SetAt B m SB wx)=>(setsIs_any (hs.grown (below_al1 wx (.cells #[.int .u8 1,.int .u8 2] 5))) e (.slice (some ⟨wx.heap.size,0,none⟩) 2 2) [1,2] (RowU.fresh wx [1,2] _ rfl 2 rfl _ rfl) (by decide)).mono (fun e1 w' q=>(show e1=.returned (.bool (stands m e))∧Below wx.heap.size wx w' from ⟨by rw [← st_kd];exact q.1,below_bx1 q.2⟩)))
 obtain ⟨IB,kv,hi,s0,s1,s2,hku,hz⟩:=h
 have HI:=Lib.hid (fun wx (g:Below w.heap.size w wx)=>hi.grown g)
 generalize entX m r e=X at *
 generalize inM m e r=ib at *
 generalize stands m e=sb at *
 clear hi hku s1 s2 h0
 go_enter Tryz.func24,Tryz.ntmps24
 go_upto_region 1 with fail
 have s0':=(HB1.out.cell (p:=⟨SB,0,none⟩) hz).trans s0
 have hz':SB<((w.alloc (.cells #[.pointer (some ⟨SB,0,none⟩)] 46)).alloc (.cells #[.int .i64 r] 3)).heap.size:=by omega
 generalize (w.alloc (.cells #[.pointer (some ⟨SB,0,none⟩)] 46)).alloc (.cells #[.int .i64 r] 3)=W1 at *
 have hB0:Below W1.heap.size W1 W1:=Below.refl _ _
 by_cases hr:r<0
 · have HX:=Lib.hid (HX0.out (.inl hr))
   have hd:decide (r<0)=true:=decide_eq_true hr
   clear HX0 HX1
   go_quiet (fail)
   go_wp2_with fail
   go_ret
   rw [HX.out]
   exact ⟨_,rfl,World.ownsRow_nil _ _ _ _,below_drewN HB1.out _⟩
 · have hd:decide (r<0)=false:=decide_eq_false hr
   have HSS:Hid (∀ W',Below W1.heap.size W1 W'→W'.cell? ⟨w.heap.size,0,none⟩=some (.pointer (some ⟨SB,0,none⟩))∧W'.cell? ⟨w.heap.size+1,0,none⟩=some (.int .i64 r)∧W'.cell? ⟨SB,0,none⟩=some (.pointer (some ⟨IB,0,none⟩))):=Lib.hid fun W' g=>⟨(g.cell (p:=⟨w.heap.size,0,none⟩) (by simp only;omega)).trans t4,(g.cell (p:=⟨w.heap.size+1,0,none⟩) (by simp only;omega)).trans t5,(g.cell (p:=⟨SB,0,none⟩) hz').trans s0'⟩
   have INx:=Lib.hid (IN.out W1.drew IB (HI.out _ HB1.out.drew))
   have HNr:=Lib.hid hr
   clear IN t4 t5 s0 s0' hr
   refine wp_region_any (by kernel_rfl) ?_
   change wpAny _ _ _ _ _ _ _ (World.drew _)
   refine wpAny_of_heldS (S:=(fun W'=>W'.cell? ⟨w.heap.size,0,none⟩=some (.pointer (some ⟨SB,0,none⟩))∧W'.cell? ⟨w.heap.size+1,0,none⟩=some (.int .i64 r)∧W'.cell? ⟨SB,0,none⟩=some (.pointer (some ⟨IB,0,none⟩)))) ?_ (fun hHeld=>?_)
   · (try dsimp only) <;> (first | exact HSS.out _ hB0.drew | exact HSS.out _ (by assumption))
   refine tk 0 rfl ?_
   try simp only [Act.put,lyA,lyZ,lyS]
   refine tk 1 rfl ?_
   try simp only [Act.put,lyA,lyZ,lyS]
   refine tk 2 rfl ?_
   try simp only [Act.put,lyA,lyZ,lyS]
   refine tk 3 rfl ?_
   try simp only [Act.put,lyA,lyZ,lyS]
   refine tk 4 rfl ?_
   try simp only [Act.put,lyA,lyZ,lyS]
   refine tk 5 rfl ?_
   try simp only [Act.put,lyA,lyZ,lyS]
   refine tk 6 rfl ?_
   try simp only [Act.put,lyA,lyZ,lyS]
   refine tk 7 rfl ?_
   try simp only [Act.put,lyA,lyZ,lyS]
   refine tk 8 rfl ?_
   try simp only [Act.put,lyA,lyZ,lyS]
   refine tk 9 rfl ?_
   try simp only [Act.put,lyA,lyZ,lyS]
   refine tk 10 rfl ?_
   try simp only [Act.put,lyA,lyZ,lyS]
   refine tk 11 rfl ?_
   try simp only [Act.put,lyA,lyZ,lyS]
   refine tk 12 rfl ?_
   try simp only [Act.put,lyA,lyZ,lyS]
   refine rdy [13] ?_
   refine rdC rfl (fun K hK=>?_) ?_
   (go_simp;(with_reducible refine (INx.out).mono ?_);rintro e1 w9 ⟨rfl,g9⟩;have hB9:Below W1.heap.size W1 w9:=below_ch hB0.drew g9;go_wp2_with fail)
   refine hK.out _ _ ?_ (fun hH1=>?_)
   · (try dsimp only) <;> (first | exact HSS.out _ hB0.drew | exact HSS.out _ (by assumption))
   clear hK K hHeld
   try simp only [Act.put,lyA,lyZ,lyS]
   refine tk 14 rfl ?_
   try simp only [Act.put,lyA,lyZ,lyS]
   refine tk 15 rfl ?_
   try simp only [Act.put,lyA,lyZ,lyS]
   refine wpAnyH_done (by kernel_rfl) ?_ _
   rotate_left
   exact AllReadyH.nil
   all_goals
     have HB9:Hid (Below w.heap.size w w9):=Lib.hid (HB1.out.trans (hB9.mono HB1.out.size))
     obtain ⟨q4,q5,q0⟩:=HSS.out _ hB9
     cases ib
     · have HX:=Lib.hid (HX0.out (.inr rfl))
       clear HX0 HX1
       go_wp2_with fail
       go_ret
       rw [HX.out]
       exact ⟨_,rfl,World.ownsRow_nil _ _ _ _,HB9.out⟩
     · have HX:=Lib.hid (HX1.out HNr.out rfl)
       have CHx:=Lib.hid (CH.out w9 IB (HI.out _ HB9.out))
       have hz9:=hB9.size
       clear HX0 HX1 CH
       go_wp2_with fail
       (with_reducible refine (CHx.out).mono ?_)
       rintro e1 w10 ⟨v10,rfl,o10,g10⟩
       have hB10:Below W1.heap.size W1 w10:=below_ch hB9 g10
       have HB10:Hid (Below w.heap.size w w10):=Lib.hid (HB1.out.trans (hB10.mono HB1.out.size))
       have THx:=Lib.hid (thinEn_any (fun v=>!inM m v r) (chainM m e) v10 w.heap.size (w.heap.size+1) w9.heap.size w10 o10 g10.size (by have:=HCl.out;omega) (fun wx gx x _=>E1.out wx (HA.out wx (HB9.out.trans ((g10.trans gx).mono HB9.out.size))) x w.heap.size (w.heap.size+1) (HSS.out _ (hB9.trans ((g10.trans gx).mono hB9.size))).1 (HSS.out _ (hB9.trans ((g10.trans gx).mono hB9.size))).2.1))
       unfold DelP at THx
       generalize (chainM m e).filter (fun x=>!(fun v=>!inM m v r) x)=F at *
       have hHl:F.length≤64:=by have:=HCl.out;have:=HFl.out;omega
       have HG10:=Lib.hid g10
       have hz10:w.heap.size≤w10.heap.size:=HB10.out.size
       clear o10 g10 CHx E1 q4 q5 q0 hB10 HB10
       go_wp2_with fail
       (with_reducible refine (THx.out).mono ?_)
       rintro e1 w11 ⟨v11,rfl,o11,g11⟩
       have hB11:Below W1.heap.size W1 w11:=hB9.trans ((HG10.out.trans g11).mono hB9.size)
       have HB11:Hid (Below w.heap.size w w11):=Lib.hid (HB1.out.trans (hB11.mono HB1.out.size))
       have HO11:=Lib.hid o11
       obtain ⟨q4,q5,q0⟩:=HSS.out _ hB11
       have ISx:=Lib.hid (IS.out w11 (HA.out w11 HB11.out))
       have hz11:w9.heap.size≤w11.heap.size:=Nat.le_trans HG10.out.size g11.size
       have hz0:w.heap.size≤w9.heap.size:=HB9.out.size
       clear o11 g11 THx HG10 IS hB9 HB9
       go_wp2_with fail
       (with_reducible refine (ISx.out).mono ?_)
       rintro e1 w12 ⟨rfl,g12⟩
       have HO12:=Lib.hid (own_below HO11.out g12)
       have HB12:Hid (Below w.heap.size w w12):=Lib.hid (HB11.out.trans (g12.mono HB11.out.size))
       have hz12:w9.heap.size≤w12.heap.size:=Nat.le_trans hz11 g12.size
       clear g12 HO11 HB11 ISx q4 q5 q0 hB11
       cases sb
       · rw [if_neg (by decide),List.append_nil] at HX
         go_wp2_with fail
         go_ret
         rw [HX.out]
         exact ⟨_,rfl,HO12.out.mono hz0,HB12.out⟩
       · rw [if_pos rfl] at HX
         go_wp2_with (at_builtin;refine wpList_append_row _ rfl _ _ 29 rfl 3 w9.heap.size iI (.int .i64 0) Tryz.underlying29 hiI zI0 zI1 zI2 rfl _ F rfl (HO12.out.alloc _) _ [e] rfl (row1 _ _ _) (by simp;omega) (by simp;omega) ?_;intro v13 w13 hown13 hgrow13 hnxt13)
         have HO13:=Lib.hid hown13
         have HB13:Hid (Below w.heap.size w w13):=Lib.hid (((HB12.out.alloc HB12.out.size _)).grown hgrow13 (by simp;omega) (fun q hq=>by have:=(HO12.out.lt q hq).1;omega))
         clear hown13 hgrow13 hnxt13
         go_ret
         rw [HX.out]
         exact ⟨_,rfl,HO13.out.mono hz0,HB13.out⟩
theorem fin_kd (m:MdlD) (v:Int):ofKd m [2] v=finM m v:=by
 unfold ofKd finM hasN
 cases hasV m v <;> simp
theorem sta_kd (m:MdlD) (v:Int):ofKd m [1] v=stA m v:=by
 unfold ofKd stA hasN
 cases hasV m v <;> simp
theorem sta_stands {m:MdlD} {v:Int} (h:stA m v=true):stands m v=true:=by
 unfold stA at h
 rw [Bool.and_eq_true,beq_iff_eq] at h
 obtain ⟨k,rfl,hk⟩:=hasV_nat h.1
 rw [kdA_at hk] at h
 rw [stands_at hk,h.2];rfl
def compl (m:MdlD) (la ll:List Int) (v:Int):Bool:=cmpM m la ll v (fit2 m la ll)
theorem compl_no {m:MdlD} {la ll:List Int} {v:Int} (h:fit2 m la ll=false∨stA m v=false∨isA m la v=false):compl m la ll v=false:=by
 unfold compl cmpM
 rcases h with h | h | h <;> rw [h] <;> simp
theorem compl_yes {m:MdlD} {la ll:List Int} {v:Int} (h1:fit2 m la ll=true) (h2:stA m v=true) (h3:isA m la v=true) {b:Bool} (hb:((ownM m v).any fun q=>!finM m (atL la q))=b):compl m la ll v=!b:=by
 unfold compl cmpM
 rw [h1,h2,h3,hb];rfl
set_option maxRecDepth 100000 in
set_option maxHeartbeats 2000000 in
theorem complete1_any {B:Nat} {m:MdlD} {SB:Nat} {la ll:List Int} {a1 a2:Option Addr} {c1 c2 H B4:Nat} {w:World} (h:SetAt B m SB w) (hc:Cb la ll a1 a2 c1 c2 H w) (h4:w.cell? ⟨B4,0,none⟩=some (.pointer (some ⟨SB,0,none⟩))) (r:Nat) (hr:r<la.length) :
   Calls Tryz.prog 80 #[.int .i64 (r:Int),.pointer (some (.mk B4 0 none)),.pointer (some (.mk H 0 none))] w fun e w'=>e=.returned (.bool (!finM m (atL la r)))∧Below w.heap.size w w':=by
 have IS:=Lib.hid (fun (v:Int)=>(setsIs_any (h.grown ((below_al1 w (.cells #[.int .u8 2] 5)).drew)) v (.slice (some ⟨w.heap.size,0,none⟩) 1 1) [2] ((RowU.fresh w [2] #[.int .u8 2] rfl 1 rfl _ rfl).below (Below.refl _ _).drew) (by decide)).mono (fun e w' q=>(show e=.returned (.bool (finM m v))∧Below w.heap.size w w' from ⟨by rw [← fin_kd];exact q.1,((below_al1 w (.cells #[.int .u8 2] 5)).drew).trans (q.2.mono (by simp))⟩)))
 obtain ⟨b,o,ea,hb,hcp,hcl⟩:=hc.at hr
 have d0:=hc.d0
 have z4:=World.block_lt_of_cell? w _ h4
 have zH:=hc.lt
 subst ea
 have hI:(r:Int)<(la.length:Int):=by omega
 have hI0:(0:Int)≤(r:Int):=by omega
 generalize atL la r=y at *
 have ISy:=Lib.hid (IS.out y)
 have HSS:Hid (∀ W',Below w.heap.size w W'→W'.cell? ⟨B4,0,none⟩=some (.pointer (some ⟨SB,0,none⟩))∧W'.cell? ⟨H,0,none⟩=some (.slice (some ⟨b,o,none⟩) la.length c1)∧W'.cell? ⟨b,o+r,none⟩=some (.int .i64 y)):=Lib.hid fun W' g=>⟨(g.cell (p:=⟨B4,0,none⟩) z4).trans h4,(g.cell (p:=⟨H,0,none⟩) zH).trans d0,(g.cell (p:=⟨b,o+r,none⟩) hb).trans hcl⟩
 have hB0:Below w.heap.size w w:=Below.refl _ _
 clear h hc h4 z4 zH hb d0 hcl IS
 go_enter Tryz.func80,Tryz.ntmps80
 go_upto_region 1 with fail
 refine wp_region_any (by kernel_rfl) ?_
 change wpAny _ _ _ _ _ _ _ (World.drew _)
 refine wpAny_of_heldS (S:=(fun W'=>W'.cell? ⟨B4,0,none⟩=some (.pointer (some ⟨SB,0,none⟩))∧W'.cell? ⟨H,0,none⟩=some (.slice (some ⟨b,o,none⟩) la.length c1)∧W'.cell? ⟨b,o+r,none⟩=some (.int .i64 y))) ?_ (fun hHeld=>?_)
 · (try dsimp only) <;> (first | exact HSS.out _ hB0.drew | exact HSS.out _ (hB0.drew.alloc (Nat.le_refl _) _) | exact HSS.out _ (hB0.alloc (Nat.le_refl _) _).drew | exact HSS.out _ (by assumption))
 refine tk 0 rfl ?_
 try simp only [Act.put,lyA,lyZ,lyS]
 refine tk 1 rfl ?_
 try simp only [Act.put,lyA,lyZ,lyS]
 refine tk 2 rfl ?_
 try simp only [Act.put,lyA,lyZ,lyS]
 refine tk 3 rfl ?_
 try simp only [Act.put,lyA,lyZ,lyS]
 refine tk 4 rfl ?_
 try simp only [Act.put,lyA,lyZ,lyS]
 refine tk 5 rfl ?_
 try simp only [Act.put,lyA,lyZ,lyS]
 refine rdy [6] ?_
 refine rdC rfl (fun K hK=>?_) ?_
 (go_simp)
 refine hK.out _ _ ?_ (fun hH1=>?_)
 · (try dsimp only) <;> (first | exact HSS.out _ hB0.drew | exact HSS.out _ (hB0.drew.alloc (Nat.le_refl _) _) | exact HSS.out _ (hB0.alloc (Nat.le_refl _) _).drew | exact HSS.out _ (by assumption))
 clear hK K hHeld
 try simp only [Act.put,lyA,lyZ,lyS]
 refine rdy [7] ?_
 refine rdC rfl (fun K hK=>?_) ?_
 (go_simp;(with_reducible refine (ISy.out).mono ?_);rintro e w9 ⟨rfl,hB9⟩;go_wp2_with fail)
 refine hK.out _ _ ?_ (fun hH2=>?_)
 · (try dsimp only) <;> (first | exact HSS.out _ hB0.drew | exact HSS.out _ (hB0.drew.alloc (Nat.le_refl _) _) | exact HSS.out _ (hB0.alloc (Nat.le_refl _) _).drew | exact HSS.out _ (by assumption))
 clear hK K hH1
 try simp only [Act.put,lyA,lyZ,lyS]
 refine tk 8 rfl ?_
 try simp only [Act.put,lyA,lyZ,lyS]
 refine tk 9 rfl ?_
 try simp only [Act.put,lyA,lyZ,lyS]
 refine wpAnyH_done (by kernel_rfl) ?_ _
 rotate_left
 exact AllReadyH.nil
 exact AllReadyH.nil
 all_goals
   go_wp2_with fail
   go_ret
   exact ⟨rfl,hB9⟩
set_option maxRecDepth 100000 in
set_option maxHeartbeats 4000000 in
theorem complete_any {B:Nat} {m:MdlD} {SB:Nat} {w:World} (h:SetAt B m SB w) (h0:riM m=(0,0,0)) (hm1:m.regs.length≤1000) (hm2:m.vers.length≤1000) (la ll:List Int) (a1 a2:Option Addr) (c1 c2:Nat) (h1:RowIn w (.slice a1 la.length c1) la) (h2:RowIn w (.slice a2 ll.length c2) ll) (b1:la.length≤140737488355328) (b2:ll.length≤140737488355328) (v:Int) :
   Calls Tryz.prog 30 #[.pointer (some ⟨SB,0,none⟩),.agg #[.slice a1 la.length c1,.slice a2 ll.length c2],.int .i64 v] w fun e w'=>e=.returned (.bool (compl m la ll v))∧Below w.heap.size w w':=by
 have HB1:Hid (Below w.heap.size w ((w.alloc (.cells #[.pointer (some ⟨SB,0,none⟩)] 46)).alloc (.cells #[.slice a1 la.length c1,.slice a2 ll.length c2] 52))):=Lib.hid (below_al2 w _ _)
 have HC0:Hid (Cb la ll a1 a2 c1 c2 (w.heap.size+1) ((w.alloc (.cells #[.pointer (some ⟨SB,0,none⟩)] 46)).alloc (.cells #[.slice a1 la.length c1,.slice a2 ll.length c2] 52))):=Lib.hid (by
   have:=Cb.made (h1.below (below_al1 w (.cells #[.pointer (some ⟨SB,0,none⟩)] 46))) (h2.below (below_al1 w (.cells #[.pointer (some ⟨SB,0,none⟩)] 46)))
   rwa [World.size_alloc] at this)
 have t0:((w.alloc (.cells #[.pointer (some ⟨SB,0,none⟩)] 46)).alloc (.cells #[.slice a1 la.length c1,.slice a2 ll.length c2] 52)).cell? ⟨w.heap.size,0,none⟩=some (.pointer (some ⟨SB,0,none⟩)):=by
   exact ((below_al1 (w.alloc (.cells #[.pointer (some ⟨SB,0,none⟩)] 46)) (.cells #[.slice a1 la.length c1,.slice a2 ll.length c2] 52)).cell (p:=⟨w.heap.size,0,none⟩) (by simp)).trans (by simp)
 have hz1:((w.alloc (.cells #[.pointer (some ⟨SB,0,none⟩)] 46)).alloc (.cells #[.slice a1 la.length c1,.slice a2 ll.length c2] 52)).heap.size=w.heap.size+1+1:=by simp
 have HAw:=Lib.hid (fun wx (g:Below w.heap.size w wx)=>h.grown g)
 have HN:=Lib.hid (fun hh=>compl_no (m:=m) (la:=la) (ll:=ll) (v:=v) hh)
 have HY:=Lib.hid (fun q1 q2 q3 b hb=>compl_yes (m:=m) (la:=la) (ll:=ll) (v:=v) q1 q2 q3 (b:=b) hb)
 have FT:=Lib.hid (fun wx (hs:SetAt B m SB wx) (hc:Cb la ll a1 a2 c1 c2 (w.heap.size+1) wx)=>setsFits_any hs h0 la ll a1 a2 c1 c2 hc.r1 hc.r2 b1 b2 (by omega))
 have IS:=Lib.hid (fun wx (hs:SetAt B m SB wx)=>(setsIs_any (hs.grown (below_al1 wx (.cells #[.int .u8 1] 5))) v (.slice (some ⟨wx.heap.size,0,none⟩) 1 1) [1] (RowU.fresh wx [1] _ rfl 1 rfl _ rfl) (by decide)).mono (fun e w' q=>(show e=.returned (.bool (stA m v))∧Below wx.heap.size wx w' from ⟨by rw [← sta_kd];exact q.1,below_bx1 q.2⟩)))
 have HF:=Lib.hid (fun hf:fit2 m la ll=true=>(fit_of h0 hf).1)
 have AC:=Lib.hid (fun wx (hs:SetAt B m SB wx) (hc:Cb la ll a1 a2 c1 c2 (w.heap.size+1) wx) (k r:Nat) hk hr hrl=>active20_any hs hm2 la ll a1 a2 c1 c2 hc.r1 hc.r2 k r hk hr hrl)
 have H0:=Lib.hid h0
 generalize compl m la ll v=X at *
 obtain ⟨fb,hfb⟩:∃ fb,fit2 m la ll=fb:=⟨_,rfl⟩
 obtain ⟨sb,hsb⟩:∃ sb,stA m v=sb:=⟨_,rfl⟩
 rw [hfb] at HN HY FT HF
 rw [hsb] at HN HY IS
 have HSb:=Lib.hid hsb
 clear h h1 h2 b1 b2 h0 hfb hsb
 go_enter Tryz.func30,Tryz.ntmps30
 go_upto_region 1 with fail
 generalize (w.alloc (.cells #[.pointer (some ⟨SB,0,none⟩)] 46)).alloc (.cells #[.slice a1 la.length c1,.slice a2 ll.length c2] 52)=W1 at *
 have HT:Hid (∀ wx,Below W1.heap.size W1 wx→wx.cell? ⟨w.heap.size,0,none⟩=some (.pointer (some ⟨SB,0,none⟩))):=Lib.hid fun wx g=>(g.cell (p:=⟨w.heap.size,0,none⟩) (by simp only;omega)).trans t0
 have d0:=HC0.out.d0
 have d1:=HC0.out.d1
 have FTx:=Lib.hid (FT.out W1 (HAw.out W1 HB1.out) HC0.out)
 cases fb
 · have HX:=Lib.hid (HN.out (.inl rfl))
   clear HN HY
   go_wp2_with fail
   (with_reducible refine (FTx.out).mono ?_)
   rintro e w2 ⟨rfl,g2⟩
   go_wp2_with fail
   go_ret
   exact ⟨by rw [HX.out];first | done | rfl,HB1.out.trans (g2.mono HB1.out.size)⟩
 have F:=HF.out rfl
 have HFt:=Lib.hid F
 clear HF F
 go_wp2_with fail
 (with_reducible refine (FTx.out).mono ?_)
 rintro e w2 ⟨rfl,g2⟩
 have HG2:=Lib.hid g2
 have HB2:Hid (Below w.heap.size w w2):=Lib.hid (HB1.out.trans (g2.mono HB1.out.size))
 have HC2:=Lib.hid (HC0.out.below g2)
 clear t0 d0 d1 FTx FT g2 HC0
 have t0:=HT.out w2 HG2.out
 have ISx:=Lib.hid (IS.out w2 (HAw.out w2 HB2.out))
 clear IS
 cases sb
 · have HX:=Lib.hid (HN.out (.inr (.inl rfl)))
   clear HN HY
   go_wp2_with fail
   (with_reducible refine (ISx.out).mono ?_)
   rintro e w3 ⟨rfl,g3⟩
   go_wp2_with fail
   go_ret
   exact ⟨by rw [HX.out];first | done | rfl,HB2.out.trans (g3.mono HB2.out.size)⟩
 obtain ⟨k,hk,rfl,r,hr,er1,er2,er3,er4,er5⟩:=stands_in H0.out (sta_stands HSb.out)
 have hrl:r<la.length:=by rw [HFt.out.hl];exact hr
 have HIs:Hid (∀ y,(atL la r == (k:Int))=y→isA m la k=y):=Lib.hid fun y hy=>by
   unfold isA
   rw [sta_stands HSb.out,er1,hy];rfl
 go_wp2_with fail
 (with_reducible refine (ISx.out).mono ?_)
 rintro e w3 ⟨rfl,g3⟩
 have HG3:=Lib.hid (below_ch HG2.out g3)
 have HB3:Hid (Below w.heap.size w w3):=Lib.hid (HB2.out.trans (g3.mono HB2.out.size))
 have HC3:=Lib.hid (HC2.out.below g3)
 have ACx:=Lib.hid (AC.out w3 (HAw.out w3 HB3.out) HC3.out k r hk er2 hrl)
 obtain ⟨y,hy⟩:∃ y,(atL la r == (k:Int))=y:=⟨_,rfl⟩
 rw [hy] at ACx
 have HIy:=Lib.hid (HIs.out y hy)
 clear t0 g3 HC2 HB2 HG2 ISx AC HIs hy er1 er2 er3 er4 er5
 have t0:=HT.out w3 HG3.out
 have d0:=HC3.out.d0
 have d1:=HC3.out.d1
 cases y
 · have HX:=Lib.hid (HN.out (.inr (.inr HIy.out)))
   clear HN HY
   go_wp2_with fail
   (with_reducible refine (ACx.out).mono ?_)
   rintro e w4 ⟨rfl,g4⟩
   go_wp2_with fail
   go_ret
   exact ⟨by rw [HX.out];first | done | rfl,HB3.out.trans (g4.mono HB3.out.size)⟩
 have HYx:=Lib.hid (HY.out (by trivial) (by trivial) HIy.out)
 clear HN HY HIy
 go_wp2_with fail
 (with_reducible refine (ACx.out).mono ?_)
 rintro e w4 ⟨rfl,g4⟩
 have HG4:=Lib.hid (below_ch HG3.out g4)
 have HB4:Hid (Below w.heap.size w w4):=Lib.hid (HB3.out.trans (g4.mono HB3.out.size))
 have HC4:=Lib.hid (HC3.out.below g4)
 clear t0 d0 d1 g4 HC3 HB3 HG3 ACx
 have t0:=HT.out w4 HG4.out
 obtain ⟨IB,kv,hi,s0,s1,s2,hku,hzS⟩:=HAw.out w4 HB4.out
 have HRg:=Lib.hid (regions_any hi (k:Int) (WalkArith.wf_i64 ⟨by omega,by omega⟩) (by omega))
 have hOl:(ownM m (k:Int)).length≤1000:=by have:=sel_len (isOwn (k:Int)) m.regs;have e:(ownM m (k:Int)).length≤m.regs.length:=this;omega
 have HCt:=Lib.hid (fun wx (g:Below w4.heap.size w4 wx) (rv:Value) (hr:RowIn wx rv (ownM m (k:Int)))=>hasCo_any (fun q=>!finM m (atL la q)) (ownM m (k:Int)) rv w.heap.size (w.heap.size+1) wx hr (by omega) (fun wy gy x hx=>by
   obtain ⟨j,hj,rfl,_⟩:=own_at hx
   exact complete1_any (HAw.out wy (HB4.out.trans ((g.trans (gy.mono g.size)).mono HB4.out.size))) (HC4.out.below (below_ch g gy)) (HT.out wy (below_ch (below_ch HG4.out g) gy)) j (by rw [HFt.out.hl];exact hj)))
 clear hi hku s1 s2
 go_wp2_with fail
 (with_reducible refine (HRg.out).mono ?_)
 rintro e w5 ⟨rv,rfl,o5,g5⟩
 obtain ⟨ra,rc,rfl⟩:=ownsRow_slice o5
 have HCt5:=Lib.hid (HCt.out w5 g5 _ (RowIn.own o5))
 have HYv:=Lib.hid (HYx.out _ rfl)
 have HB5:Hid (Below w.heap.size w w5):=Lib.hid (HB4.out.trans (g5.mono HB4.out.size))
 clear o5 g5 HRg HCt HYx
 generalize (ownM m (k:Int)).any (fun q=>!finM m (atL la q))=bz at *
 go_wp2_with fail
 (with_reducible refine (HCt5.out).mono ?_)
 rintro e w6 ⟨rfl,g6⟩
 go_wp2_with fail
 go_ret
 exact ⟨by rw [HYv.out];first | done | rfl,HB5.out.trans (g6.mono HB5.out.size)⟩
section
variable (a1 a2:Option Addr) (n1 n2 c1 c2:Nat) (w:World)
end
end Go.Proofs
