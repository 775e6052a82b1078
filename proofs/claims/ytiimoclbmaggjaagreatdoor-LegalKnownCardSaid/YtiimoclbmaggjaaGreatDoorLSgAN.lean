/- Walks: a row without vertices; Blank, Home, Complete of the sets. -/
import Derived.Test.YtiimoclbmaggjaaGreatDoorLSeAD
namespace Go.Proofs
open Go.RowKit Go.Lx Go.Md Go.Shelf Go.BigFrame Go.Rgi
set_option linter.unusedVariables false
theorem made_zero (n:Nat):(madeCells (Value.int .i64 0).cells (n * 1)).toList=nums (List.replicate n 0):=by
 apply List.ext_getElem?
 intro j
 by_cases h:j<n <;> simp [madeCells,nums,Value.cells,Nat.mod_one,h]
def fillR (n k:Nat):List Int:=List.replicate k (-1) ++ List.replicate (n - k) 0
theorem fillR_len {n k:Nat} (h:k≤n):(fillR n k).length=n:=by unfold fillR;simp;omega
theorem fillR_zero (n:Nat):fillR n 0=List.replicate n 0:=by unfold fillR;simp
theorem fillR_all (n:Nat):fillR n n=List.replicate n (-1):=by unfold fillR;simp
theorem fillR_step {n k:Nat} (h:k<n):(fillR n k).set k (-1)=fillR n (k+1):=by
 unfold fillR
 rw [List.set_append_right _ _ (by simp),List.length_replicate,Nat.sub_self,List.replicate_succ',List.append_assoc]
 congr 1
 obtain ⟨d,hd⟩:∃ d,n - k=d+1:=⟨n - k - 1,by omega⟩
 rw [hd,show n - (k+1)=d by omega,List.replicate_succ];rfl
theorem nums_set (l:List Int) (k:Nat) (x:Int):nums (l.set k x)=(nums l).set k (.int .i64 x):=by simp [nums,List.map_set]
set_option maxRecDepth 100000 in
set_option maxHeartbeats 2000000 in
theorem none20_any (n:Nat) (w:World) (hn:n≤1000):Calls Tryz.prog 132 #[.int .i64 (n:Int)] w (RowP (List.replicate n (-1)) w):=by
 obtain ⟨iI,hiI,zI0,zI1,zI2⟩:=info_parts info_Num
 have HBy:Hid (iI.bytes * n≤281474976710656):=Lib.hid (by rw [zI2];omega)
 have hmk:Hid (n≤maxLen):=Lib.hid (by unfold maxLen;omega)
 go_enter Tryz.func132,Tryz.ntmps132
 go_wp2_with (at_make;refine wpList_make_full _ rfl _ _ 31 rfl w.heap.size 3 iI (.int .i64 0) 1 Tryz.underlying31 hiI zI0 zI1 .i64 .i64 (n:Int) (n:Int) n rfl rfl rfl rfl HBy.out hmk.out (Nat.le_refl _) ?_;intro w6 hown6 hgrow6)
 have HO6:Hid (w6.ownsRow w.heap.size 3 1 (.slice (some ⟨w.heap.size,0,none⟩) n n) n (nums (fillR n 0))):=Lib.hid (by
   rw [made_zero] at hown6;rw [fillR_zero];exact hown6)
 have HB6:Hid (Below w.heap.size w w6):=Lib.hid ((Below.refl _ w).grown hgrow6 (Nat.le_refl _) (fun q hq=>by cases hq))
 clear hown6 hgrow6
 go_loopw [9] (fun i wr=>∃ k:Nat,k≤n∧i=.int .i64 k∧Below w.heap.size w wr∧wr.ownsRow w.heap.size 3 1 (.slice (some ⟨w.heap.size,0,none⟩) n n) n (nums (fillR n k))) (fun i _=>n - (intOf i).toNat)
 case atStart=>exact ⟨0,by omega,rfl,HB6.out,HO6.out⟩
 case round =>
  obtain ⟨wo,rfl⟩:∃ wo:World,wo=wr:=⟨_,rfl⟩
  obtain ⟨k,hk,rfl,hb,ho⟩:=hrel
  have HBo:=Lib.hid hb
  have HOo:=Lib.hid ho
  have hgo:=(ho.lt _ rfl).2
  clear hb ho HB6 HO6
  by_cases hlt:k<n
  · have hI:(k:Int)<(n:Int):=by omega
    have hI0:(0:Int)≤(k:Int):=by omega
    obtain ⟨x,hx⟩:∃ x,(nums (fillR n k))[k]? = some x:=⟨_,List.getElem?_eq_getElem (by unfold nums;rw [List.length_map,fillR_len (by omega)];exact hlt)⟩
    have hc:wo.cell? ⟨w.heap.size,k,none⟩=some x:=(HOo.out.cellAt k (by omega)).trans hx
    have hf:=HOo.out.frozenAt k
    have HFin:Hid (Below w.heap.size w (wo.setCell ⟨w.heap.size,k,none⟩ (.int .i64 (-1)))∧(wo.setCell ⟨w.heap.size,k,none⟩ (.int .i64 (-1))).ownsRow w.heap.size 3 1 (.slice (some ⟨w.heap.size,0,none⟩) n n) n (nums (fillR n (k+1)))):=Lib.hid (by
      refine ⟨HBo.out.setCell (p:=⟨w.heap.size,k,none⟩) (Nat.le_refl _) _,?_⟩
      rw [← fillR_step hlt,nums_set]
      exact (HOo.out.stored k (.int .i64 (-1))).1)
    clear hx HOo HBo
    go_wp2_with fail
    go_roundw
    case rel=>exact ⟨k+1,by omega,by go_num,HFin.out⟩
    case measure=>simp [intOf] <;> omega
  · obtain rfl:k=n:=by omega
    go_wp2_with fail
    go_ret
    refine ⟨_,rfl,?_,HBo.out⟩
    have:=HOo.out
    rw [fillR_all] at this
    rw [List.length_replicate];exact this
theorem blank_fin {la ll:List Int} {n1 n2:Nat} {w W1 wF:World} {v1 v2:Value} (hB:Below w.heap.size w W1) (hz:W1.heap.size=w.heap.size+1) (gF:Below W1.heap.size W1 wF) (o1:wF.ownsRow W1.heap.size 3 1 v1 n1 (nums la)) (o2:wF.ownsRow W1.heap.size 3 1 v2 n2 (nums ll)) (hd:∀ g,v1.ownBlock=some g→v2.ownBlock≠some g) :
   ((wF.setCell ⟨w.heap.size,0,none⟩ v1).setCell ⟨w.heap.size,1,none⟩ v2).ownsRow w.heap.size 3 1 v1 n1 (nums la)∧((wF.setCell ⟨w.heap.size,0,none⟩ v1).setCell ⟨w.heap.size,1,none⟩ v2).ownsRow w.heap.size 3 1 v2 n2 (nums ll)∧(∀ g,v1.ownBlock=some g→v2.ownBlock≠some g)∧Below w.heap.size w ((wF.setCell ⟨w.heap.size,0,none⟩ v1).setCell ⟨w.heap.size,1,none⟩ v2) :=
 ⟨(ownsRow_setCell_below (a:=⟨w.heap.size,1,none⟩) (ownsRow_setCell_below (a:=⟨w.heap.size,0,none⟩) o1 (by simp only;omega) _) (by simp only;omega) _).mono (by omega),(ownsRow_setCell_below (a:=⟨w.heap.size,1,none⟩) (ownsRow_setCell_below (a:=⟨w.heap.size,0,none⟩) o2 (by simp only;omega) _) (by simp only;omega) _).mono (by omega),hd,((hB.trans (gF.mono hB.size)).setCell (p:=⟨w.heap.size,0,none⟩) (Nat.le_refl _) _).setCell (p:=⟨w.heap.size,1,none⟩) (Nat.le_refl _) _⟩
set_option maxRecDepth 100000 in
set_option maxHeartbeats 2000000 in
theorem blank_any {B:Nat} {m:MdlD} {SB:Nat} {w:World} (h:SetAt B m SB w) (hm1:m.regs.length≤1000) :
   Calls Tryz.prog 54 #[.pointer (some ⟨SB,0,none⟩)] w (CloneC (List.replicate m.regs.length (-1)) (List.replicate m.regs.length (-1)) w):=by
 unfold CloneC
 have HA:=Lib.hid (fun wx (g:Below w.heap.size w wx)=>h.grown g)
 have HSB:Hid (SB<w.heap.size):=Lib.hid (by obtain ⟨_,_,_,_,_,_,_,hz⟩:=h;exact hz)
 have NN:=Lib.hid (fun wx=>none20_any m.regs.length wx hm1)
 have HB1:Hid (Below w.heap.size w (w.alloc (.cells #[.slice none 0 0,.slice none 0 0] 74))):=Lib.hid (below_al1 w _)
 have e1:=World.alloc_heap_new w (.cells #[.slice none 0 0,.slice none 0 0] 74)
 have hz1:(w.alloc (.cells #[.slice none 0 0,.slice none 0 0] 74)).heap.size=w.heap.size+1:=by simp
 have HL:Hid ((List.replicate m.regs.length (-1:Int)).length=m.regs.length):=Lib.hid List.length_replicate
 generalize List.replicate m.regs.length (-1:Int)=L at *
 rw [HL.out]
 have HE1:=Lib.hid e1
 clear h e1
 go_enter Tryz.func54,Tryz.ntmps54
 go_upto_region 3 with fail
 generalize w.alloc (.cells #[.slice none 0 0,.slice none 0 0] 74)=W1 at *
 have hB0:Below W1.heap.size W1 W1:=Below.refl _ _
 have HSS:Hid (∀ W',Below W1.heap.size W1 W'→W'.cell? ⟨SB,2,none⟩=some (.int .i64 m.regs.length)∧W'.cell? ⟨w.heap.size,0,none⟩=some (.slice none 0 0)∧W'.cell? ⟨w.heap.size,1,none⟩=some (.slice none 0 0)∧W'.frozen? ⟨w.heap.size,0,none⟩=false∧W'.frozen? ⟨w.heap.size,1,none⟩=false):=Lib.hid fun W' g=>by
   obtain ⟨IB,kv,_,_,_,s2,_,_⟩:=HA.out W' (below_ch HB1.out g)
   have f0:=(g.block w.heap.size (by omega)).trans HE1.out
   exact ⟨s2,cell_blk f0 0,cell_blk f0 1,frz_b f0 0,frz_b f0 1⟩
 have CA:=Lib.hid (fun W'=>NN.out W')
 clear HA NN
 refine wp_region_any (by kernel_rfl) ?_
 change wpAny _ _ _ _ _ _ _ (World.drew _)
 refine wpAny_sink (n:=11) (o:=⟨none,.store 74 (.tmp 2) (.tmp 16),0, "sets.go:61", #[⟨10,.data⟩,⟨9,.chain⟩,⟨0,.phase⟩,⟨1,.phase⟩,⟨2,.phase⟩,⟨3,.phase⟩,⟨4,.phase⟩,⟨5,.phase⟩,⟨6,.phase⟩,⟨7,.phase⟩,⟨8,.phase⟩,⟨9,.phase⟩,⟨10,.phase⟩],none⟩) (ops':=#[⟨some 6,.move (.tmp 0),77, "sets.go:61", #[],none⟩,⟨some 7,.nilCheck (.tmp 6),0, "sets.go:61", #[⟨0,.data⟩],none⟩,⟨some 8,.fieldAddr 176 (.tmp 7) 2,0, "sets.go:61", #[⟨1,.data⟩],none⟩,⟨some 9,.load 3 (.tmp 8),3, "sets.go:61", #[⟨2,.data⟩],none⟩,⟨some 10,.call { callee:=.value (.func 132),args:=#[.tmp 9],argTypes:=#[3] },31, "sets.go:61", #[⟨3,.data⟩],none⟩,⟨some 11,.move (.tmp 0),77, "sets.go:61", #[],none⟩,⟨some 12,.nilCheck (.tmp 11),0, "sets.go:61", #[⟨5,.data⟩],none⟩,⟨some 13,.fieldAddr 176 (.tmp 12) 2,0, "sets.go:61", #[⟨6,.data⟩],none⟩,⟨some 14,.load 3 (.tmp 13),3, "sets.go:61", #[⟨7,.data⟩],none⟩,⟨some 15,.call { callee:=.value (.func 132),args:=#[.tmp 14],argTypes:=#[3] },31, "sets.go:61", #[⟨8,.data⟩,⟨4,.chain⟩],none⟩,⟨some 16,.build 74 #[(0,.tmp 10),(1,.tmp 15)],74, "sets.go:61", #[⟨4,.data⟩,⟨9,.data⟩],none⟩]) (by decide) (by kernel_rfl) (by rfl) (by rfl) ?_
 refine wpAny_of_heldS (S:=(fun W'=>W'.cell? ⟨SB,2,none⟩=some (.int .i64 m.regs.length)∧W'.cell? ⟨w.heap.size,0,none⟩=some (.slice none 0 0)∧W'.cell? ⟨w.heap.size,1,none⟩=some (.slice none 0 0)∧W'.frozen? ⟨w.heap.size,0,none⟩=false∧W'.frozen? ⟨w.heap.size,1,none⟩=false)) ?_ (fun hHeld=>?_)
 · (try dsimp only) <;> (first | exact HSS.out _ hB0.drew | exact HSS.out _ (by assumption))
 refine tk 0 rfl ?_
 try simp only [Act.put,lyA,lyZ,lyS]
 refine tk 1 rfl ?_
 try simp only [Act.put,lyA,lyZ,lyS]
 refine tk 2 rfl ?_
 try simp only [Act.put,lyA,lyZ,lyS]
 refine tk 3 rfl ?_
 try simp only [Act.put,lyA,lyZ,lyS]
 refine tk 5 rfl ?_
 try simp only [Act.put,lyA,lyZ,lyS]
 refine tk 6 rfl ?_
 try simp only [Act.put,lyA,lyZ,lyS]
 refine tk 7 rfl ?_
 try simp only [Act.put,lyA,lyZ,lyS]
 refine tk 8 rfl ?_
 try simp only [Act.put,lyA,lyZ,lyS]
 refine rdy [4] ?_
 refine rdC rfl (fun K hK=>?_) ?_
 (go_simp;(with_reducible refine (CA.out _).mono ?_);rintro e w10 ⟨v10,rfl,o10,hb10⟩;rw [HL.out] at o10;obtain ⟨x10,y10,rfl⟩:=ownsRow_slice o10;have hB10:Below W1.heap.size W1 w10:=below_ch (by first | assumption | exact hB0.drew) hb10;obtain ⟨q0,q1,q2,q3,q4⟩:=HSS.out _ hB10;go_wp2_with fail)
 refine hK.out _ _ ?_ (fun hH1=>?_)
 · (try dsimp only) <;> (first | exact HSS.out _ hB0.drew | exact HSS.out _ (by assumption))
 clear hK K hHeld
 try simp only [Act.put,lyA,lyZ,lyS]
 refine rdy [9] ?_
 refine rdC rfl (fun K hK=>?_) ?_
 (go_simp;(with_reducible refine (CA.out _).mono ?_);rintro e w11 ⟨v11,rfl,o11,hb11⟩;rw [HL.out] at o11;obtain ⟨x11,y11,rfl⟩:=ownsRow_slice o11;have hB11:Below W1.heap.size W1 w11:=below_ch (by first | assumption | exact hB0.drew) hb11;obtain ⟨q0,q1,q2,q3,q4⟩:=HSS.out _ hB11;go_wp2_with fail)
 refine hK.out _ _ ?_ (fun hH2=>?_)
 · (try dsimp only) <;> (first | exact HSS.out _ hB0.drew | exact HSS.out _ (by assumption))
 clear hK K hH1
 try simp only [Act.put,lyA,lyZ,lyS]
 refine tk 10 rfl ?_
 try simp only [Act.put,lyA,lyZ,lyS]
 refine wpAnyH_done (by kernel_rfl) ?_ _
 rotate_left
 exact AllReadyH.nil
 exact AllReadyH.nil
 all_goals
   refine sinkQ_of fun K hK=>?_
   go_simp
   refine hK _ _ ?_
   clear hK K
   go_wp2_with fail
   refine bodyPost_ret (v:=.agg #[.slice x10 m.regs.length y10,.slice x11 m.regs.length y11]) (by simp [results,Tryz.results54,go_sem,q1,q2]) rfl ?_
   first
     | exact ⟨_,_,rfl,blank_fin HB1.out hz1 hB11 (own_below (o10.mono (by first | exact Nat.le_refl _ | exact (show W1.heap.size≤_ from (by simp)))) hb11) (o11.mono hB10.size) (fun g hg hg2=>by have:=(o10.lt g hg).2;have:=(o11.lt g hg2).1;omega)⟩
     | exact ⟨_,_,rfl,blank_fin HB1.out hz1 hB10 (o10.mono hB11.size) (own_below (o11.mono (by first | exact Nat.le_refl _ | exact (show W1.heap.size≤_ from (by simp)))) hb10) (fun g hg hg2=>by have:=(o10.lt g hg).1;have:=(o11.lt g hg2).2;omega)⟩
end Go.Proofs
