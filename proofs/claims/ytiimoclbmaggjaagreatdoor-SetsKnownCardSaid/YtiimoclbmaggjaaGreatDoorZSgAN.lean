/- Walks: a row without vertices; Blank, Home, Complete of the sets. -/
import Derived.Test.YtiimoclbmaggjaaGreatDoorZSeAD
import Derived.Lib.SliceRun
namespace Go.Proofs
open Go.RowKit Go.Lx Go.Md Go.Shelf Go.BigFrame Go.Rgi
open Lib(hid)
open Go.Proofs.Tryz
set_option maxRecDepth 100000
set_option maxHeartbeats 0
set_option linter.unusedVariables false
theorem zfr (n:Nat):(madeCells (Value.int .i64 0).cells (n * 1)).toList=nums (List.replicate n 0):=by
 apply List.ext_getElem?;intro j
 by_cases h:j<n <;> simp [madeCells,nums,Value.cells,Nat.mod_one,h]
def fillR (n k:Nat):List Int:=List.replicate k (-1) ++ List.replicate (n - k) 0
theorem zfs {n k:Nat} (h:k<=n):(fillR n k).length=n:=by unfold fillR;simp;omega
theorem zdM (n:Nat):fillR n 0=List.replicate n 0:=by unfold fillR;simp
theorem zft (n:Nat):fillR n n=List.replicate n (-1):=by unfold fillR;simp
theorem zdN {n k:Nat} (h:k<n):(fillR n k).set k (-1)=fillR n (k+1):=by
 unfold fillR;rw [List.set_append_right _ _ (by simp),List.length_replicate,Nat.sub_self,List.replicate_succ',List.append_assoc];congr 1;obtain ⟨d,hd⟩:∃ d,n - k=d+1:=⟨n - k - 1,by omega⟩;rw [hd,show n - (k+1)=d by omega,List.replicate_succ];rfl
theorem zau (l:List Int) (k:Nat) (x:Int):nums (l.set k x)=(nums l).set k (.int .i64 x):=by simp [nums,List.map_set]
theorem zdO (n:Nat) (w:World) (hn:n<=1000):Calls prog 132 #[.int .i64 (n:Int)] w (RowP (List.replicate n (-1)) w):=by
 obtain ⟨iI,hiI,zI0,zI1,zI2⟩:=info_parts zS;have HBy:Hid (iI.bytes * n<=281474976710656):=hid (by rw [zI2];omega);have hmk:Hid (n<=maxLen):=hid (by unfold maxLen;omega);go_enter func132,ntmps132;go_wp2_with (at_make;refine wpList_make_full _ rfl _ _ 31 rfl w.heap.size 3 iI (.int .i64 0) 1 underlying31 hiI zI0 zI1 .i64 .i64 (n:Int) (n:Int) n rfl rfl rfl rfl HBy.o hmk.o (Nat.le_refl _) ?_;intro w6 hown6 hgrow6)
 have HO6:Hid (w6.ownsRow w.heap.size 3 1 (.slice (some ⟨w.heap.size,0,none⟩) n n) n (nums (fillR n 0))):=hid (by
   rw [zfr] at hown6;rw [zdM];exact hown6)
 have HB6:Hid (Bl w w6):=hid ((Below.refl _ w).grown hgrow6 (Nat.le_refl _) (fun q hq=>by cases hq));clear hown6 hgrow6
 go_loopw [9] (fun i wr=>∃ k:Nat,k<=n/\i=.int .i64 k/\Bl w wr/\wr.ownsRow w.heap.size 3 1 (.slice (some ⟨w.heap.size,0,none⟩) n n) n (nums (fillR n k))) (fun i _=>n - (intOf i).toNat)
 case atStart=>exact ⟨0,by omega,rfl,HB6.o,HO6.o⟩
 case round =>
  obtain ⟨wo,rfl⟩:=ex1 wr;obtain ⟨k,hk,rfl,hb,ho⟩:=hrel;have HBo:=hid hb;have HOo:=hid ho;have hgo:=(ho.lt _ rfl).2;clear hb ho HB6 HO6
  by_cases hlt:k<n
  . have hI:(k:Int)<(n:Int):=by omega
    have hI0:(0:Int)<=(k:Int):=by omega
    obtain ⟨x,hx⟩:∃ x,(nums (fillR n k))[k]? = some x:=⟨_,List.getElem?_eq_getElem (by unfold nums;rw [List.length_map,zfs (by omega)];exact hlt)⟩;have hc:wo.cell? ⟨w.heap.size,k,none⟩=some x:=(HOo.o.cellAt k (by omega)).trans hx;have hf:=HOo.o.frozenAt k
    have HFin:Hid (Bl w (wo.setCell ⟨w.heap.size,k,none⟩ (.int .i64 (-1)))/\(wo.setCell ⟨w.heap.size,k,none⟩ (.int .i64 (-1))).ownsRow w.heap.size 3 1 (.slice (some ⟨w.heap.size,0,none⟩) n n) n (nums (fillR n (k+1)))):=hid (by
      refine ⟨HBo.o.setCell (p:=⟨w.heap.size,k,none⟩) (Nat.le_refl _) _,?_⟩;rw [<- zdN hlt,zau];exact (HOo.o.stored k (.int .i64 (-1))).1)
    clear hx HOo HBo;go_wp2_with fail;go_roundw
    case rel=>exact ⟨k+1,by omega,by go_num,HFin.o⟩
    case measure=>simp [intOf] <;> omega
  . obtain rfl:k=n:=by omega
    go_wp2_with fail;go_ret;refine ⟨_,rfl,?_,HBo.o⟩;have:=HOo.o;rw [zft] at this;rw [List.length_replicate];exact this
theorem zbz {la ll:List Int} {n1 n2:Nat} {w W1 wF:World} {v1 v2:Value} (hB:Bl w W1) (hz:W1.heap.size=w.heap.size+1) (gF:Bl W1 wF) (o1:wF.ownsRow W1.heap.size 3 1 v1 n1 (nums la)) (o2:wF.ownsRow W1.heap.size 3 1 v2 n2 (nums ll)) (hd:∀ g,v1.ownBlock=some g->v2.ownBlock≠some g) :
   ((wF.setCell ⟨w.heap.size,0,none⟩ v1).setCell ⟨w.heap.size,1,none⟩ v2).ownsRow w.heap.size 3 1 v1 n1 (nums la)/\((wF.setCell ⟨w.heap.size,0,none⟩ v1).setCell ⟨w.heap.size,1,none⟩ v2).ownsRow w.heap.size 3 1 v2 n2 (nums ll)/\(∀ g,v1.ownBlock=some g->v2.ownBlock≠some g)/\Bl w ((wF.setCell ⟨w.heap.size,0,none⟩ v1).setCell ⟨w.heap.size,1,none⟩ v2) :=
 ⟨(ownsRow_setCell_below (a:=⟨w.heap.size,1,none⟩) (ownsRow_setCell_below (a:=⟨w.heap.size,0,none⟩) o1 (by simp only;omega) _) (by simp only;omega) _).mono (by omega),(ownsRow_setCell_below (a:=⟨w.heap.size,1,none⟩) (ownsRow_setCell_below (a:=⟨w.heap.size,0,none⟩) o2 (by simp only;omega) _) (by simp only;omega) _).mono (by omega),hd,((hB.trans (gF.mono hB.size)).setCell (p:=⟨w.heap.size,0,none⟩) (Nat.le_refl _) _).setCell (p:=⟨w.heap.size,1,none⟩) (Nat.le_refl _) _⟩
theorem zbA {B:Nat} {m:MdlD} {SB:Nat} {w:World} (h:SetAt B m SB w) (hm1:m.zb.length<=1000) :
   Calls prog 54 #[.pointer (some ⟨SB,0,none⟩)] w (CloneC (List.replicate m.zb.length (-1)) (List.replicate m.zb.length (-1)) w):=by
 unfold CloneC;have HA:=hid (fun wx (g:Bl w wx)=>h.grown g);have HSB:Hid (SB<w.heap.size):=hid (by obtain ⟨_,_,_,_,_,_,_,hz⟩:=h;exact hz);have NN:=hid (fun wx=>zdO m.zb.length wx hm1);have HB1:Hid (Bl w (w.alloc (.cells #[.slice none 0 0,.slice none 0 0] 74))):=hid (zg w _);have e1:=World.alloc_heap_new w (.cells #[.slice none 0 0,.slice none 0 0] 74);have hz1:(w.alloc (.cells #[.slice none 0 0,.slice none 0 0] 74)).heap.size=w.heap.size+1:=by simp
 have HL:Hid ((List.replicate m.zb.length (-1:Int)).length=m.zb.length):=hid List.length_replicate;generalize List.replicate m.zb.length (-1:Int)=L at *;rw [HL.o];have HE1:=hid e1;clear h e1;go_enter func54,ntmps54;go_upto_region 3 with fail;generalize w.alloc (.cells #[.slice none 0 0,.slice none 0 0] 74)=W1 at *;have hB0:Bl W1 W1:=Below.refl _ _
 have HSS:Hid (∀ W',Bl W1 W'->W'.cell? ⟨SB,2,none⟩=some (.int .i64 m.zb.length)/\W'.cell? ⟨w.heap.size,0,none⟩=some (.slice none 0 0)/\W'.cell? ⟨w.heap.size,1,none⟩=some (.slice none 0 0)/\W'.frozen? ⟨w.heap.size,0,none⟩=false/\W'.frozen? ⟨w.heap.size,1,none⟩=false):=hid fun W' g=>by
   obtain ⟨IB,kv,_,_,_,s2,_,_⟩:=HA.o W' (zi HB1.o g);have f0:=(g.block w.heap.size (by omega)).trans HE1.o;exact ⟨s2,zh f0 0,zh f0 1,zX f0 0,zX f0 1⟩
 have CA:=hid (fun W'=>NN.o W');clear HA NN;refine wp_region_any (by kernel_rfl) ?_;change wpAny _ _ _ _ _ _ _ (World.drew _);refine zz (n:=11) (o:=⟨none,.store 74 (.tmp 2) (.tmp 16),0, "sets.go:61", #[⟨10,.data⟩,⟨9,.chain⟩,⟨0,.phase⟩,⟨1,.phase⟩,⟨2,.phase⟩,⟨3,.phase⟩,⟨4,.phase⟩,⟨5,.phase⟩,⟨6,.phase⟩,⟨7,.phase⟩,⟨8,.phase⟩,⟨9,.phase⟩,⟨10,.phase⟩],none⟩) (ops':=#[⟨some 6,.move (.tmp 0),77, "sets.go:61", #[],none⟩,⟨some 7,.nilCheck (.tmp 6),0, "sets.go:61", #[⟨0,.data⟩],none⟩,⟨some 8,.fieldAddr 176 (.tmp 7) 2,0, "sets.go:61", #[⟨1,.data⟩],none⟩,⟨some 9,.load 3 (.tmp 8),3, "sets.go:61", #[⟨2,.data⟩],none⟩,⟨some 10,.call { callee:=.value (.func 132),args:=#[.tmp 9],argTypes:=#[3] },31, "sets.go:61", #[⟨3,.data⟩],none⟩,⟨some 11,.move (.tmp 0),77, "sets.go:61", #[],none⟩,⟨some 12,.nilCheck (.tmp 11),0, "sets.go:61", #[⟨5,.data⟩],none⟩,⟨some 13,.fieldAddr 176 (.tmp 12) 2,0, "sets.go:61", #[⟨6,.data⟩],none⟩,⟨some 14,.load 3 (.tmp 13),3, "sets.go:61", #[⟨7,.data⟩],none⟩,⟨some 15,.call { callee:=.value (.func 132),args:=#[.tmp 14],argTypes:=#[3] },31, "sets.go:61", #[⟨8,.data⟩,⟨4,.chain⟩],none⟩,⟨some 16,.build 74 #[(0,.tmp 10),(1,.tmp 15)],74, "sets.go:61", #[⟨4,.data⟩,⟨9,.data⟩],none⟩]) (by decide) (by kernel_rfl) (by rfl) (by rfl) ?_;refine hld HSS.o (hB0.drew) (fun hHeld=>?_);refine tk 0 rfl ?_;refine tk 1 rfl ?_;refine tk 2 rfl ?_;refine tk 3 rfl ?_;refine tk 5 rfl ?_;refine tk 6 rfl ?_;refine tk 7 rfl ?_;refine tk 8 rfl ?_;refine rd1 4 (fun K hK=>?_);(go_simp;(with_reducible refine (CA.o _).mono ?_);rintro e w10 ⟨v10,rfl,o10,hb10⟩;rw [HL.o] at o10;obtain ⟨x10,y10,rfl⟩:=zj o10;have hB10:Bl W1 w10:=zi (by first | assumption | exact hB0.drew) hb10;obtain ⟨q0,q1,q2,q3,q4⟩:=HSS.o _ hB10;go_wp2_with fail);refine nx hK ?_ (fun hH1=>?_);(first | exact HSS.o _ hB0.drew | exact HSS.o _ (by assumption));clear hK K hHeld;refine rd1 9 (fun K hK=>?_);(go_simp;(with_reducible refine (CA.o _).mono ?_);rintro e w11 ⟨v11,rfl,o11,hb11⟩;rw [HL.o] at o11;obtain ⟨x11,y11,rfl⟩:=zj o11;have hB11:Bl W1 w11:=zi (by first | assumption | exact hB0.drew) hb11;obtain ⟨q0,q1,q2,q3,q4⟩:=HSS.o _ hB11;go_wp2_with fail);refine nx hK ?_ (fun hH2=>?_);(first | exact HSS.o _ hB0.drew | exact HSS.o _ (by assumption));clear hK K hH1;refine tk 10 rfl ?_;refine dn ?_;rotate_left
 all_goals
   refine zI fun K hK=>?_;go_simp;refine hK _ _ ?_;clear hK K;go_wp2_with fail;refine bodyPost_ret (v:=.agg #[.slice x10 m.zb.length y10,.slice x11 m.zb.length y11]) (by simp [results,results54,go_sem,q1,q2]) rfl ?_
   first
     | exact ⟨_,_,rfl,zbz HB1.o hz1 hB11 (zu (o10.mono (by first | exact Nat.le_refl _ | exact (show W1.heap.size<=_ from (by simp)))) hb11) (o11.mono hB10.size) (fun g hg hg2=>by have:=(o10.lt g hg).2;have:=(o11.lt g hg2).1;omega)⟩
     | exact ⟨_,_,rfl,zbz HB1.o hz1 hB10 (o10.mono hB11.size) (zu (o11.mono (by first | exact Nat.le_refl _ | exact (show W1.heap.size<=_ from (by simp)))) hb10) (fun g hg hg2=>by have:=(o10.lt g hg).1;have:=(o11.lt g hg2).2;omega)⟩
theorem ql {B:Nat} {m:MdlD} {SB:Nat} {w:World} (h:SetAt B m SB w) (h0:riM m=(0,0,0)) (l:List Int) (lv:Value) (hr:RowIn w lv l) (hl:l.length<=90000) :
   Calls prog 138 #[.pointer (some ⟨SB,0,none⟩),lv] w fun e w'=>e=.returned (.int .i64 (homeL m l))/\Bl w w':=by
 obtain ⟨IB,kv,hi,s0,s1,s2,hku,hz⟩:=h;have HI:=hid (fun wx (g:Bl w wx)=>hi.grown g);obtain ⟨ad,c,rfl,hc,q⟩:=hr.len;have H0:=hid h0;have HR:=hid (fun (wx:World) (g:Bl w wx)=>hr.zf g);clear hi hku s1 s2 hr h0
 cases l with
 | nil =>
  clear q;go_enter func138,ntmps138;go_wp2_with fail;go_ret;exact ⟨rfl,Below.refl _ _⟩
 | cons a t =>
  obtain ⟨b,o,rfl,hbl,hcl⟩:=q 0 (by simp);rw [List.getElem_cons_zero,Nat.add_zero] at hcl
  have HT:Hid (∀ wx,Bl w wx->∀ a1 c1,(a1=some ⟨b,o+1,none⟩/\c1=c - 1\/t.length=0)->Calls prog 28 #[.pointer (some ⟨IB,0,none⟩),.int .i64 a,.int .i64 a,.slice a1 t.length c1] wx fun e w'=>e=.returned (.int .i64 (homeL m (a :: t)))/\Bl wx w'):=hid fun wx g a1 c1 hh=>by
    refine zdv (HI.o wx g) a a _ t (by rw [List.length_cons] at hl;omega) ?_ H0.o
    by_cases ht:t.length=0
    . have:t=[]:=List.length_eq_zero_iff.1 ht
      subst this;exact RowIn.nil0 _ _
    . obtain ⟨rfl,rfl⟩:=hh.resolve_right ht
      have:=(HR.o wx g).back (j:=1) (by rw [List.length_cons];omega);simpa using this
  obtain ⟨n,hn⟩:=ex2 t.length;rw [hn] at HT;rw [List.length_cons,hn] at hc |-;generalize homeL m (a :: t)=X at *;have HSS:Hid (∀ W',Bl w W'->W'.cell? ⟨SB,0,none⟩=some (.pointer (some ⟨IB,0,none⟩))/\W'.cell? ⟨b,o,none⟩=some (.int .i64 a)):=hid fun W' g=>⟨(g.cell (p:=⟨SB,0,none⟩) hz).trans s0,(g.cell (p:=⟨b,o,none⟩) hbl).trans hcl⟩;have hB0:Bl w w:=Below.refl _ _;clear q s0 hcl hz hbl hl HR HI hn;go_enter func138,ntmps138
  by_cases hc1:c=1
  . subst hc1
    obtain rfl:n=0:=by omega
    have HTx:=hid (HT.o w.drew hB0.drew (some ⟨b,o,none⟩) 0 (.inr rfl));clear HT hc;go_upto_region 3 with fail;refine wp_region_any (by kernel_rfl) ?_;change wpAny _ _ _ _ _ _ _ (World.drew _);refine hld HSS.o (hB0.drew) (fun hHeld=>?_);refine tk 0 rfl ?_;refine tk 1 rfl ?_;refine tk 2 rfl ?_;refine tk 3 rfl ?_;refine tk 4 rfl ?_;refine tk 5 rfl ?_;refine tk 6 rfl ?_;refine tk 7 rfl ?_;refine tk 8 rfl ?_;refine tk 9 rfl ?_;refine tk 10 rfl ?_;refine tk 11 rfl ?_;refine rd1 12 (fun K hK=>?_);(go_simp;(with_reducible refine (HTx.o).mono ?_);rintro e w9 ⟨rfl,g9⟩;have hB9:Bl w w9:=zi hB0.drew g9;go_wp2_with fail);refine nx hK ?_ (fun hH1=>?_);(first | exact HSS.o _ hB0.drew | exact HSS.o _ (by assumption));clear hK K hHeld;refine tk 13 rfl ?_;refine dn ?_;rotate_left
    all_goals
      go_wp2_with fail;go_ret;exact ⟨rfl,hB9⟩
  . have HTx:=hid (HT.o w.drew hB0.drew (some ⟨b,o+1,none⟩) (c - 1) (.inl ⟨rfl,rfl⟩))
    have hc2:(1:Int)<=(c:Int):=by omega
    have hc3:(1:Int)<=(n:Int)+1:=by omega
    clear HT;go_upto_region 3 with fail;refine wp_region_any (by kernel_rfl) ?_;change wpAny _ _ _ _ _ _ _ (World.drew _);refine hld HSS.o (hB0.drew) (fun hHeld=>?_);refine tk 0 rfl ?_;refine tk 1 rfl ?_;refine tk 2 rfl ?_;refine tk 3 rfl ?_;refine tk 4 rfl ?_;refine tk 5 rfl ?_;refine tk 6 rfl ?_;refine tk 7 rfl ?_;refine tk 8 rfl ?_;refine tk 9 rfl ?_;refine tk 10 rfl ?_;refine tk 11 rfl ?_;refine rd1 12 (fun K hK=>?_);(go_simp;(with_reducible refine (HTx.o).mono ?_);rintro e w9 ⟨rfl,g9⟩;have hB9:Bl w w9:=zi hB0.drew g9;go_wp2_with fail);refine nx hK ?_ (fun hH1=>?_);(first | exact HSS.o _ hB0.drew | exact HSS.o _ (by assumption));clear hK K hHeld;refine tk 13 rfl ?_;refine dn ?_;rotate_left
    all_goals
      go_wp2_with fail;go_ret;exact ⟨rfl,hB9⟩
def EnterP (m:MdlD) (la ll:List Int) (v:Int) (w:World) (e:Ending) (w':World):Prop:=Bl w w' /\
 ((mayE m la ll v≠0/\e=.returned (.tuple #[.agg #[.slice none 0 0,.slice none 0 0],.int .i64 (mayE m la ll v:Int)])) \/
  (mayE m la ll v=0/\enterOk m la v=false/\e=.returned (.tuple #[.agg #[.slice none 0 0,.slice none 0 0],.int .i64 4])) \/
  (mayE m la ll v=0/\enterOk m la v=true/\∃ v1 v2,e=.returned (.tuple #[.agg #[v1,v2],.int .i64 0])/\w'.ownsRow w.heap.size 3 1 v1 la.length (nums (la.set (rgA m v).toNat v))/\w'.ownsRow w.heap.size 3 1 v2 ll.length (nums ll)/\∀ g,v1.ownBlock=some g->v2.ownBlock≠some g))
theorem EnterP.bad {m:MdlD} {la ll:List Int} {v:Int} {w w':World} {E:Nat} (hE:mayE m la ll v=E) (hn:E≠0) (hb:Bl w w'):EnterP m la ll v w (.returned (.tuple #[.agg #[.slice none 0 0,.slice none 0 0],.int .i64 (E:Int)])) w':=by
 subst hE;exact ⟨hb,.inl ⟨hn,rfl⟩⟩
theorem EnterP.no {m:MdlD} {la ll:List Int} {v:Int} {w w':World} (hE:mayE m la ll v=0) (hn:enterOk m la v=false) (hb:Bl w w'):EnterP m la ll v w (.returned (.tuple #[.agg #[.slice none 0 0,.slice none 0 0],.int .i64 4])) w' :=
 ⟨hb,.inr (.inl ⟨hE,hn,rfl⟩)⟩
theorem EnterP.yes {m:MdlD} {la ll:List Int} {v:Int} {w w':World} {v1 v2:Value} {r:Nat} (hE:mayE m la ll v=0) (hn:enterOk m la v=true) (hr:(rgA m v).toNat=r) (hb:Bl w w') (o1:w'.ownsRow w.heap.size 3 1 v1 la.length ((nums la).set r (.int .i64 v))) (o2:w'.ownsRow w.heap.size 3 1 v2 ll.length (nums ll)) (hd:∀ g,v1.ownBlock=some g->v2.ownBlock≠some g) :
   EnterP m la ll v w (.returned (.tuple #[.agg #[v1,v2],.int .i64 0])) w':=by
 refine ⟨hb,.inr (.inr ⟨hE,hn,v1,v2,rfl,?_,o2,hd⟩)⟩;rw [hr,show nums (la.set r v)=(nums la).set r (.int .i64 v) by simp [nums,List.map_set]];exact o1
theorem zfu {m:MdlD} {la:List Int} {k r:Nat} (hr:rgA m (k:Int)=r):enterOk m la k=(decide (atL la r<0) && (upsM m (arM m k)).all (isA m la)):=by
 unfold enterOk;rw [hr]
theorem ups_all {m:MdlD} {v:Int} {f:Int->Bool} (h:∀ i,i<lenM m v->f (upN m i v)=true):(upsM m v).all f=true:=by
 rw [yJ,List.all_eq_true];intro x hx;obtain ⟨i,hi,rfl⟩:=List.mem_map.1 hx;exact h i (List.mem_range.1 hi)
theorem ups_not {m:MdlD} {v:Int} {f:Int->Bool} {i:Nat} (hi:i<lenM m v) (h:f (upN m i v)=false):(upsM m v).all f=false:=by
 rw [yJ,List.all_eq_false];exact ⟨_,List.mem_map.2 ⟨i,List.mem_range.2 hi,rfl⟩,by rw [h];simp⟩
theorem up_at {m:MdlD} (h0:riM m=(0,0,0)) {k:Nat} (hk:k<m.zc.length) {j:Nat} (hj:j<lenM m (arM m k)):∃ x r:Nat,upN m j (arM m k)=x/\x<m.zc.length/\stands m x=true/\rgA m x=r/\r<m.zb.length/\homeM m x=r/\parM m x=upN m (j+1) (arM m k)/\lenM m (upN m (j+1) (arM m k))<lenM m (x:Int):=by
 obtain ⟨x,hx,hxl,ha⟩:=(yw h0 (yp h0 hk).2.2 (by have:=(yp h0 hk).2.1;omega)).2 j hj
 have hm:(x:Int) ∈ upsM m (arM m k):=by
   rw [yJ,List.mem_map];exact ⟨j,List.mem_range.2 hj,hx⟩
 obtain ⟨s,hs,e,hkd,_⟩:=qH h0 hk hm;obtain rfl:x=s:=by omega
 have hst:stands m (x:Int)=true:=by rw [yg hs,hkd];rfl
 obtain ⟨k',hk',ek,r,hr,e1,e2,_⟩:=zD h0 hst;refine ⟨x,r,hx,hxl,hst,e1,hr,e2,?_,?_⟩
 . unfold parM;rw [zE hxl,if_pos rfl,ha]
 . rw [<- ha];exact zd4 h0 hxl
theorem ku {B:Nat} {m:MdlD} {SB:Nat} {w:World} (h:SetAt B m SB w) (h0:riM m=(0,0,0)) (hm1:m.zb.length<=1000) (hm2:m.zc.length<=1000) (la ll:List Int) (a1 a2:Option Addr) (c1 c2:Nat) (h1:RowIn w (.slice a1 la.length c1) la) (h2:RowIn w (.slice a2 ll.length c2) ll) (b1:la.length<=140737488355328) (b2:ll.length<=140737488355328) (v:Int) :
   Calls prog 147 #[.pointer (some ⟨SB,0,none⟩),.agg #[.slice a1 la.length c1,.slice a2 ll.length c2],.int .i64 v] w (EnterP m la ll v w):=by
 have HB1:Hid (Bl w ((w.alloc (.cells #[.slice a1 la.length c1,.slice a2 ll.length c2] 74)).alloc (.cells #[.slice none 0 0,.slice none 0 0] 74))):=hid (zq w _ _);have HC:=hid ((Cb.made h1 h2).zf (zg _ (.cells #[.slice none 0 0,.slice none 0 0] 74)));have HA:=hid (h.grown HB1.o);have HAw:=hid (fun wx (g:Bl w wx)=>h.grown g);have HSB:Hid (SB<w.heap.size):=hid (by obtain ⟨_,_,_,_,_,_,_,hz⟩:=h;exact hz);have hz:((w.alloc (.cells #[.slice a1 la.length c1,.slice a2 ll.length c2] 74)).alloc (.cells #[.slice none 0 0,.slice none 0 0] 74)).heap.size=w.heap.size+1+1:=by simp
 have e0:((w.alloc (.cells #[.slice a1 la.length c1,.slice a2 ll.length c2] 74)).alloc (.cells #[.slice none 0 0,.slice none 0 0] 74)).heap[w.heap.size]? = some (.cells #[.slice a1 la.length c1,.slice a2 ll.length c2] 74 (0,0)):=(Below.heap_alloc _ _ _ (by simp)).trans (World.alloc_heap_new w _);have e1:=World.alloc_heap_new (w.alloc (.cells #[.slice a1 la.length c1,.slice a2 ll.length c2] 74)) (.cells #[.slice none 0 0,.slice none 0 0] 74);rw [World.size_alloc] at e1
 have HK:Hid (∀ wx,Below (w.heap.size+1+1) ((w.alloc (.cells #[.slice a1 la.length c1,.slice a2 ll.length c2] 74)).alloc (.cells #[.slice none 0 0,.slice none 0 0] 74)) wx->(wx.cell? ⟨w.heap.size+1,0,none⟩=some (.slice none 0 0)/\wx.cell? ⟨w.heap.size+1,1,none⟩=some (.slice none 0 0)/\wx.frozen? ⟨w.heap.size+1,0,none⟩=false/\wx.frozen? ⟨w.heap.size+1,1,none⟩=false)/\wx.frozen? ⟨w.heap.size,0,none⟩=false/\wx.frozen? ⟨w.heap.size,1,none⟩=false):=hid fun wx g=>by
   have f0:=(g.block w.heap.size (by omega)).trans e0;have f1:=(g.block (w.heap.size+1) (by omega)).trans e1;exact ⟨⟨zh f1 0,zh f1 1,zX f1 0,zX f1 1⟩,zX f0 0,zX f0 1⟩
 clear e0 e1;have MY:=hid (zbF HA.o h0 hm2 la ll a1 a2 c1 c2 HC.o.r1 HC.o.r2 b1 b2 v);have H0:=hid h0;have HMz:=hid (fun h:mayE m la ll v=0=>jv h);obtain ⟨E,hEe⟩:=ex2 (mayE m la ll v);rw [hEe] at MY HMz;have HEe:=hid hEe;clear hEe;clear h h1 h2 b1 b2 h0;go_enter func147,ntmps147;go_upto_region 1 with fail;generalize (w.alloc (.cells #[.slice a1 la.length c1,.slice a2 ll.length c2] 74)).alloc (.cells #[.slice none 0 0,.slice none 0 0] 74)=W1 at *;have d0:=HC.o.d0;have d1:=HC.o.d1;go_wp2_with fail;(with_reducible refine (MY.o).mono ?_);rintro e w3 ⟨rfl,g3⟩;have HC3:=hid (HC.o.zf g3);have HA3:=hid (HA.o.grown g3);have HB3:=hid (HB1.o.trans (g3.mono HB1.o.size));have HK3:=hid (fun wx (g:Bl w3 wx)=>HK.o wx ((g3.trans (g.mono g3.size)).mono (by omega)));have hz3:w.heap.size+1+1<=w3.heap.size:=by have:=g3.size;omega
 clear d0 d1 HC HA HB1 HK g3 MY hz;obtain ⟨⟨t0,t1,t2,t3⟩,t4,t5⟩:=HK3.o w3 (Below.refl _ _)
 by_cases hE:E=0
 rotate_left
 . have hz1:((E:Int) != 0)=true:=by simp only [bne_iff_ne,ne_eq];omega
   have HE:=hid hE;clear HMz hE;go_wp2_with fail;refine bodyPost_ret (v:=.tuple #[.agg #[.slice none 0 0,.slice none 0 0],.int .i64 (E:Int)]) (by simp [results,results147,go_sem,t0,t1]) rfl (EnterP.bad HEe.o HE.o ((HB3.o.setCell (p:=⟨w.heap.size+1,0,none⟩) (by simp) _).setCell (p:=⟨w.heap.size+1,1,none⟩) (by simp) _))
 subst hE;obtain ⟨hfit,hst⟩:=HMz.o rfl;obtain ⟨F1,F2⟩:=kA H0.o hfit;obtain ⟨k,hk,rfl,r,hr,er1,er2,er3,er4,er5⟩:=zD H0.o hst;have HF1:=hid F1;have HF2:=hid F2;have hrl:r<la.length:=by rw [F1.hl];exact hr
 have hla:la.length<=1000:=by rw [F1.hl];exact hm1
 have hll:ll.length<=1000:=by rw [F2.hl];exact hm1
 have hll0:0<ll.length:=by rw [F2.hl];omega
 have HRa:Hid ((rgA m (k:Int)).toNat=r):=hid (by rw [er1];rfl);have HEn:=hid (zfu (m:=m) (la:=la) er1);obtain ⟨IB,kv,hi,s0,s1,s2,hku,hzS⟩:=HA3.o;have HIx:=hid hi;have HHm:=hid (fun n=>jT (hi.grown (below_drewN (Below.refl w3.heap.size w3) n)) (k:Int) (WalkArith.wf_i64 ⟨by omega,by omega⟩));have HPr:=hid (fun n=>zaj (hi.grown (below_drewN (Below.refl w3.heap.size w3) n)) (k:Int) (WalkArith.wf_i64 ⟨by omega,by omega⟩));rw [er2] at HHm;have hpk:parM m (k:Int)=upN m 0 (arM m k):=by unfold parM;rw [zE hk,if_pos rfl];rfl
 rw [hpk] at HPr;have HUa:=hid (fun j hj=>up_at H0.o hk (j:=j) hj);have HUe:Hid (upN m (lenM m (arM m k)) (arM m k)<0):=hid (yw H0.o (yp H0.o hk).2.2 (by have:=(yp H0.o hk).2.1;omega)).1;have hln:lenM m (arM m k)<=64:=(yp H0.o hk).2.1;clear HMz hfit hst F1 F2 hi hku er1 er2 er3 er4 er5 hpk s1 s2;go_upto_region 4 with fail
 go_quiet (first | (go_at_call 23;refine Calls.quiet_of_same (v:=.int .i64 (r:Int)) ?_;((with_reducible refine (HHm.o _).mono ?_));rintro e w' ⟨he,hw⟩;exact ⟨he,hw.symm⟩) | (go_at_call 22;refine Calls.quiet_of_same (v:=.int .i64 (upN m 0 (arM m k))) ?_;((with_reducible refine (HPr.o _).mono ?_));rintro e w' ⟨he,hw⟩;exact ⟨he,hw.symm⟩))
 have HAo:=hid (fun wx (g:Bl w3 wx)=>HA3.o.grown g);have hrI:(r:Int)<(la.length:Int):=by omega
 have hr0:(0:Int)<=(r:Int):=by omega
 clear HHm HPr t0 t1 t2 t3 t4 t5 s0 hzS HIx;go_wp2_with fail
 go_loopw [10] (fun p wr=>∃ j:Nat,j<=lenM m (arM m k)/\p=.int .i64 (upN m j (arM m k))/\Bl w3 wr/\∀ i,i<j->isA m la (upN m i (arM m k))=true) (fun p _=>lenM m (intOf p))
 case atStart=>exact ⟨0,by omega,rfl,below_drewN (Below.refl _ _) _,fun i hi=>by omega⟩
 case round =>
  obtain ⟨wo,rfl⟩:=ex1 wr;obtain ⟨j,hj,rfl,hb,hall⟩:=hrel;have HBo:=hid hb;have HAl:=hid hall;have hzo:w.heap.size+1+1<=wo.heap.size:=by have:=hb.size;omega
  clear hb hall;obtain ⟨⟨t0,t1,t2,t3⟩,t4,t5⟩:=HK3.o wo HBo.o;have HCo:=hid (HC3.o.zf HBo.o);have d0:=HCo.o.d0;have d1:=HCo.o.d1;obtain ⟨b,o,ea,hbl,hcp,hcl⟩:=HCo.o.at hrl;have HBw:Hid (Bl w wo):=hid (HB3.o.trans (HBo.o.mono HB3.o.size))
  by_cases hlt:j<lenM m (arM m k)
  . obtain ⟨x,q,ex,hxl,hxs,hxq,hql,hxh,hxp,hxd⟩:=HUa.o j hlt
    rw [ex];have hx0:(0:Int)<=(x:Int):=by omega
    have HAc:=hid (qO (HAo.o wo HBo.o) hm2 la ll a1 a2 c1 c2 HCo.o.r1 HCo.o.r2 x q hxl hxh (by rw [HF1.o.hl];exact hql))
    have HIs:Hid (∀ y,(atL la q == (x:Int))=y->isA m la (upN m j (arM m k))=y):=hid fun y hy=>by
      rw [ex];unfold isA;rw [hxs,hxq,hy];rfl
    obtain ⟨y,hy⟩:∃ y,(atL la q == (x:Int))=y:=⟨_,rfl⟩;rw [hy] at HAc;have HIy:=hid (HIs.o y hy);have HXp:=hid hxp;have HXd:=hid hxd;clear HIs hy hxs hxq hxh hxp hxd ex ea hbl hcp hcl
    cases y
    . have HNo:Hid (enterOk m la k=false):=hid (by rw [HEn.o,ups_not hlt HIy.o];simp)
      clear HIy HXp HXd HUa HAl;go_wp2_with fail;(with_reducible refine (HAc.o).mono ?_);rintro e w4 ⟨rfl,g4⟩;have HB4:=hid (zi HBo.o g4);have HBw4:Hid (Bl w w4):=hid (HB3.o.trans (HB4.o.mono HB3.o.size));have hz4:w.heap.size+1+1<=w4.heap.size:=by have:=HB4.o.size;omega
      clear t0 t1 t2 t3 t4 t5 d0 d1 g4 HCo HAc HBo HBw;obtain ⟨⟨t0,t1,t2,t3⟩,t4,t5⟩:=HK3.o w4 HB4.o;have HCo:=hid (HC3.o.zf HB4.o);have d0:=HCo.o.d0;have d1:=HCo.o.d1;obtain ⟨b,o,ea,hbl,hcp,hcl⟩:=HCo.o.at hrl;subst ea
      by_cases ha:0<=atL la r
      . generalize atL la r=y at *
        go_wp2_with fail;refine bodyPost_ret (v:=.tuple #[.agg #[.slice none 0 0,.slice none 0 0],.int .i64 4]) (by simp [results,results147,go_sem,t0,t1]) rfl (EnterP.no HEe.o HNo.o ((HBw4.o.setCell (p:=⟨w.heap.size+1,0,none⟩) (by simp) _).setCell (p:=⟨w.heap.size+1,1,none⟩) (by simp) _))
      . generalize atL la r=y at *
        have had:decide (0<=y)=false:=decide_eq_false ha;go_wp2_with fail;refine bodyPost_ret (v:=.tuple #[.agg #[.slice none 0 0,.slice none 0 0],.int .i64 4]) (by simp [results,results147,go_sem,t0,t1]) rfl (EnterP.no HEe.o HNo.o ((HBw4.o.setCell (p:=⟨w.heap.size+1,0,none⟩) (by simp) _).setCell (p:=⟨w.heap.size+1,1,none⟩) (by simp) _))
    . have HAn:Hid (∀ i,i<j+1->isA m la (upN m i (arM m k))=true):=hid fun i hi=>by
        by_cases e:i=j
        . subst e;exact HIy.o
        . exact HAl.o i (by omega)
      clear HIy HUa HAl;go_wp2_with fail;(with_reducible refine (HAc.o).mono ?_);rintro e w4 ⟨rfl,g4⟩;have HB4:=hid (zi HBo.o g4);obtain ⟨IB,kv,hi,s0,s1,s2,hku,hzS⟩:=HAo.o w4 HB4.o;have HPr:=hid (zaj hi (x:Int) (WalkArith.wf_i64 ⟨by omega,by omega⟩));rw [HXp.o] at HPr;clear t0 t1 t2 t3 t4 t5 d0 d1 g4 HCo HAc HBo HBw hi hku s1 s2;go_wp2_with fail;(with_reducible refine (HPr.o).mono ?_);rintro e w5 ⟨rfl,rfl⟩;go_wp2_with fail;go_roundw
      case rel=>exact ⟨j+1,by omega,rfl,HB4.o,HAn.o⟩
      case measure=>exact HXd.o
  . obtain rfl:j=lenM m (arM m k):=by omega
    have hup:=HUe.o;have HAu:=hid (ups_all (f:=isA m la) HAl.o);have hnI:¬ (0<=upN m (lenM m (arM m k)) (arM m k)):=by omega
    have hnD:decide (0<=upN m (lenM m (arM m k)) (arM m k))=false:=decide_eq_false hnI;generalize upN m (lenM m (arM m k)) (arM m k)=z at *;subst ea;clear HAl HUa hlt HUe
    by_cases ha:0<=atL la r
    . have HNo:Hid (enterOk m la k=false):=hid (by rw [HEn.o,decide_eq_false (show ¬ atL la r<0 by omega)];rfl)
      generalize atL la r=y at *;go_wp2_with fail;refine bodyPost_ret (v:=.tuple #[.agg #[.slice none 0 0,.slice none 0 0],.int .i64 4]) (by simp [results,results147,go_sem,t0,t1]) rfl (EnterP.no HEe.o HNo.o ((HBw.o.setCell (p:=⟨w.heap.size+1,0,none⟩) (by simp) _).setCell (p:=⟨w.heap.size+1,1,none⟩) (by simp) _))
    . have HYs:Hid (enterOk m la k=true):=hid (by rw [HEn.o,decide_eq_true (show atL la r<0 by omega),HAu.o];rfl)
      have had:decide (0<=atL la r)=false:=decide_eq_false ha;generalize atL la r=y at *;have HCl:=hid (jZ wo HCo.o.r1 HCo.o.r2 (fun e=>by rw [e] at hrl;simp at hrl) (fun e=>by rw [e] at hll0;simp at hll0) (by omega) (by omega));clear t0 t1 t2 t3 t4 t5;go_wp2_with fail;(with_reducible refine (HCl.o).mono ?_);rintro e w7 ⟨v1,v2,rfl,o1,o2,hd,g7⟩;obtain ⟨g1,cap1,rfl⟩:=zF o1 (by omega);obtain ⟨g2,cap2,rfl⟩:=zF o2 (by omega);have hg12:g1≠g2:=fun e=>hd g1 rfl (by rw [e];rfl)
      have hgl1:=o1.lt g1 rfl;have hgl2:=o2.lt g2 rfl;have hcp1:=zJ o1;have hcp2:=zJ o2;have HG7:=hid (zi HBo.o g7);obtain ⟨⟨t0,t1,t2,t3⟩,t4,t5⟩:=HK3.o w7 HG7.o;have e0:=(g7.cell (p:=⟨w.heap.size,0,none⟩) (by simp only;omega)).trans d0;have e1:=(g7.cell (p:=⟨w.heap.size,1,none⟩) (by simp only;omega)).trans d1;have HB7:=hid (HBw.o.trans (g7.mono HBw.o.size));have HO1:=hid o1;have HO2:=hid o2;clear o1 o2 hd g7 d0 d1 HCl HK3 hbl hcl;go_upto_region 10 with fail;have hB8:Bl w ((w7.setCell ⟨w.heap.size,0,none⟩ (.slice (some ⟨g1,0,none⟩) la.length cap1)).setCell ⟨w.heap.size,1,none⟩ (.slice (some ⟨g2,0,none⟩) ll.length cap2)):=(HB7.o.setCell (p:=⟨w.heap.size,0,none⟩) (Nat.le_refl _) _).setCell (p:=⟨w.heap.size,1,none⟩) (Nat.le_refl _) _;have k1:((w7.setCell ⟨w.heap.size,0,none⟩ (.slice (some ⟨g1,0,none⟩) la.length cap1)).setCell ⟨w.heap.size,1,none⟩ (.slice (some ⟨g2,0,none⟩) ll.length cap2)).cell? ⟨w.heap.size,1,none⟩=some (.slice (some ⟨g2,0,none⟩) ll.length cap2):=World.cell?_setCell_same _ _ _ ((World.cell?_setCell_other _ _ _ _ (by simp)).trans e1);have k0:((w7.setCell ⟨w.heap.size,0,none⟩ (.slice (some ⟨g1,0,none⟩) la.length cap1)).setCell ⟨w.heap.size,1,none⟩ (.slice (some ⟨g2,0,none⟩) ll.length cap2)).cell? ⟨w.heap.size,0,none⟩=some (.slice (some ⟨g1,0,none⟩) la.length cap1):=(World.cell?_setCell_other _ _ _ _ (by simp)).trans (World.cell?_setCell_same _ _ _ e0);have p1:=ownsRow_setCell_below (a:=⟨w.heap.size,1,none⟩) (ownsRow_setCell_below (a:=⟨w.heap.size,0,none⟩) HO1.o (by simp only;omega) (.slice (some ⟨g1,0,none⟩) la.length cap1)) (by simp only;omega) (.slice (some ⟨g2,0,none⟩) ll.length cap2);have p2:=ownsRow_setCell_below (a:=⟨w.heap.size,1,none⟩) (ownsRow_setCell_below (a:=⟨w.heap.size,0,none⟩) HO2.o (by simp only;omega) (.slice (some ⟨g1,0,none⟩) la.length cap1)) (by simp only;omega) (.slice (some ⟨g2,0,none⟩) ll.length cap2);have kb:∀ b,b≠w.heap.size->((w7.setCell ⟨w.heap.size,0,none⟩ (.slice (some ⟨g1,0,none⟩) la.length cap1)).setCell ⟨w.heap.size,1,none⟩ (.slice (some ⟨g2,0,none⟩) ll.length cap2)).heap[b]? = w7.heap[b]? := fun b hb=>(Below.heap_setCell _ _ _ _ hb).trans (Below.heap_setCell _ _ _ _ hb);generalize (w7.setCell ⟨w.heap.size,0,none⟩ (.slice (some ⟨g1,0,none⟩) la.length cap1)).setCell ⟨w.heap.size,1,none⟩ (.slice (some ⟨g2,0,none⟩) ll.length cap2)=W8 at *;have u0:W8.cell? ⟨w.heap.size+1,0,none⟩=some (.slice none 0 0):=(World.cell?_of_block (w:=w7) (kb _ (by simp))).trans t0;have u1:W8.cell? ⟨w.heap.size+1,1,none⟩=some (.slice none 0 0):=(World.cell?_of_block (w:=w7) (kb _ (by simp))).trans t1;have u2:W8.frozen? ⟨w.heap.size+1,0,none⟩=false:=(World.frozen?_of_block (w:=w7) (kb _ (by simp))).trans t2;have u3:W8.frozen? ⟨w.heap.size+1,1,none⟩=false:=(World.frozen?_of_block (w:=w7) (kb _ (by simp))).trans t3;have hgl1:=p1.lt g1 rfl;have hgl2:=p2.lt g2 rfl;have HB8:=hid hB8;have HP1:=hid p1;have HP2:=hid p2;have q1:=(HP1.o.cellAt r (by omega)).trans (show (nums la)[r]? = some (.int .i64 la[r]) by simp [nums,hrl]);have f1:=HP1.o.frozenAt r;have kb9:∀ b,b≠g1->(W8.setCell ⟨g1,r,none⟩ (.int .i64 (k:Int))).heap[b]? = W8.heap[b]? := fun b h1=>Below.heap_setCell _ _ _ _ h1;have hB9:Bl w (W8.setCell ⟨g1,r,none⟩ (.int .i64 (k:Int))):=HB8.o.setCell (p:=⟨g1,r,none⟩) (by simp only;omega) _;have m1:=(HP1.o.stored r (.int .i64 (k:Int))).1;have m2:=ownsRow_setCell_other (a:=⟨g1,r,none⟩) HP2.o (fun e=>hg12 (by simpa [Value.ownBlock] using e.symm)) (.int .i64 (k:Int));clear t0 t1 t2 t3 t4 t5 e0 e1 HB7 HG7 HO1 HO2 kb p1 p2 hB8 HP1 HP2;go_upto_region 11 with fail;generalize W8.setCell ⟨g1,r,none⟩ (.int .i64 (k:Int))=W9 at *;have n0:W9.cell? ⟨w.heap.size,0,none⟩=some (.slice (some ⟨g1,0,none⟩) la.length cap1):=(World.cell?_of_block (w:=W8) (kb9 _ (by simp only;omega))).trans k0;have n1:W9.cell? ⟨w.heap.size,1,none⟩=some (.slice (some ⟨g2,0,none⟩) ll.length cap2):=(World.cell?_of_block (w:=W8) (kb9 _ (by simp only;omega))).trans k1;have n2:W9.cell? ⟨w.heap.size+1,0,none⟩=some (.slice none 0 0):=(World.cell?_of_block (w:=W8) (kb9 _ (by simp only;omega))).trans u0;have n3:W9.cell? ⟨w.heap.size+1,1,none⟩=some (.slice none 0 0):=(World.cell?_of_block (w:=W8) (kb9 _ (by simp only;omega))).trans u1;have n4:W9.frozen? ⟨w.heap.size+1,0,none⟩=false:=(World.frozen?_of_block (w:=W8) (kb9 _ (by simp only;omega))).trans u2;have n5:W9.frozen? ⟨w.heap.size+1,1,none⟩=false:=(World.frozen?_of_block (w:=W8) (kb9 _ (by simp only;omega))).trans u3;have HB9:=hid hB9;have HM1:=hid m1;have HM2:=hid m2;clear kb9 hB9 m1 m2 u0 u1 u2 u3 k0 k1 q1 f1 HB8;go_wp2_with fail;refine bodyPost_ret (v:=.tuple #[.agg #[.slice (some ⟨g1,0,none⟩) la.length cap1,.slice (some ⟨g2,0,none⟩) ll.length cap2],.int .i64 0]) (by simp [results,results147,go_sem,n2,n3]) rfl (EnterP.yes HEe.o HYs.o HRa.o ((HB9.o.setCell (p:=⟨w.heap.size+1,0,none⟩) (by simp) _).setCell (p:=⟨w.heap.size+1,1,none⟩) (by simp) _) ?_ ?_ (fun g h1 h2=>hg12 (by simp only [Value.ownBlock,Option.some.injEq] at h1 h2;omega)))
      . exact (ownsRow_setCell_below (a:=⟨w.heap.size+1,1,none⟩) (ownsRow_setCell_below (a:=⟨w.heap.size+1,0,none⟩) HM1.o (by simp only;omega) _) (by simp only;omega) _).mono (by omega)
      . exact (ownsRow_setCell_below (a:=⟨w.heap.size+1,1,none⟩) (ownsRow_setCell_below (a:=⟨w.heap.size+1,0,none⟩) HM2.o (by simp only;omega) _) (by simp only;omega) _).mono (by omega)
structure Del (P:Int->Bool) (l cur:List Int) (i j:Nat):Prop where
 len:cur.length=l.length
 lt:i<j
 le:j<=l.length
 fst:cur.take i=(l.take j).filter fun x=>!P x
 rst:∀ k,j<=k->cur[k]? = l[k]?
theorem Del.start {P:Int->Bool} {l:List Int} {i:Nat} (hi:i<l.length) (hp:P l[i]=true) (hno:∀ k (hk:k<l.length),k<i->P l[k]=false):Del P l l i (i+1):=by
 refine ⟨rfl,by omega,by omega,?_,fun _ _=>rfl⟩;rw [List.take_succ_eq_append_getElem hi,List.filter_append];have e:([l[i]]).filter (fun x=>!P x)=[]:=by simp [hp]
 rw [e,List.append_nil];refine (List.filter_eq_self.2 fun x hx=>?_).symm;obtain ⟨k,hk,rfl⟩:=List.getElem_of_mem hx;rw [List.length_take] at hk;rw [List.getElem_take,hno k (by omega) (by omega)];rfl
theorem Del.keep {P:Int->Bool} {l cur:List Int} {i j:Nat} (h:Del P l cur i j) (hj:j<l.length) (hp:P l[j]=false):Del P l (cur.set i l[j]) (i+1) (j+1):=by
 have hl:=h.len;have hlt:=h.lt;refine ⟨by rw [List.length_set];exact hl,by omega,by omega,?_,fun k hk=>?_⟩
 . rw [List.take_succ_eq_append_getElem (by rw [List.length_set];omega),List.take_set_of_le (Nat.le_refl _),h.fst,List.take_succ_eq_append_getElem hj,List.filter_append,List.getElem_set_self]
   congr 1
   simp [hp]
 . rw [List.getElem?_set_ne (by omega)]
   exact h.rst k (by omega)
theorem Del.skip {P:Int->Bool} {l cur:List Int} {i j:Nat} (h:Del P l cur i j) (hj:j<l.length) (hp:P l[j]=true):Del P l cur i (j+1):=by
 have hlt:=h.lt;refine ⟨h.len,by omega,by omega,?_,fun k hk=>h.rst k (by omega)⟩;rw [h.fst,List.take_succ_eq_append_getElem hj,List.filter_append];have e:([l[j]]).filter (fun x=>!P x)=[]:=by simp [hp]
 rw [e,List.append_nil]
theorem Del.done {P:Int->Bool} {l cur:List Int} {i:Nat} (h:Del P l cur i l.length):cur.take i=l.filter fun x=>!P x:=by
 rw [h.fst,List.take_length]
theorem zey {N:Nat} {e:TypeId} {g n c i:Nat} {w:World} {xs:List Value} (h:w.ownsRow N e 1 (.slice (some ⟨g,0,none⟩) n c) n xs) (hi:i<=n):w.ownsRow N e 1 (.slice (some ⟨g,0,none⟩) i c) i (xs.take i):=by
 obtain ⟨h1,h2⟩:=h
 rcases h2 with ⟨h0,_⟩ | ⟨g',c',cur,hv,hg,hh,hn,hcap,hsz,ht⟩
 . cases h0
 . cases hv
   refine ⟨by rw [List.length_take];omega,.inr ⟨g,c,cur,rfl,hg,hh,by omega,hcap,hsz,?_⟩⟩;rw [<- ht,List.take_take,Nat.min_eq_left (by omega),Nat.mul_one]
theorem zav {N:Nat} {e:TypeId} {g c i:Nat} {xs:List Value}:∀ (vs:List Value) (o:Nat) {w:World},w.ownsRow N e 1 (.slice (some ⟨g,0,none⟩) i c) i xs->i<=o->(w.setCells g o vs).ownsRow N e 1 (.slice (some ⟨g,0,none⟩) i c) i xs
 | [],_,_,h,_=>h
 | v :: t,o,w,h,ho=>by
   refine zav t (o+1) ?_ (by omega);have:=(h.stored o v).1;rwa [List.set_eq_of_length_le (by rw [h.1];omega)] at this
theorem jL {N g:Nat} (hg:N<=g) {a:World}:∀ (vs:List Value) (o:Nat) {w:World},Below N a w->Below N a (w.setCells g o vs)
 | [],_,_,h=>h
 | v :: t,o,w,h=>jL hg t (o+1) (h.setCell (p:=⟨g,o,none⟩) hg v)
def IdxQ (P:Int->Bool) (l:List Int) (w:World) (e:Ending) (w':World):Prop:=∃ i:Int,e=.returned (.int .i64 i)/\((i=-1/\∀ j (hj:j<l.length),P l[j]=false)\/∃ k:Nat,∃ hk:k<l.length,i=k/\P l[k]=true/\∀ j (hj:j<l.length),j<k->P l[j]=false)/\Bl w w'
def DelP (P:Int->Bool) (l:List Int) (N:Nat) (w:World) (e:Ending) (w':World):Prop:=∃ v',e=.returned v'/\w'.ownsRow N 3 1 v' (l.filter fun x=>!P x).length (nums (l.filter fun x=>!P x))/\Below N w w'
theorem zcW (w:World):(zeroValue 3).run prog w=.ok (.int .i64 0) w:=by kernel_rfl
theorem zdP (P:Int->Bool) (l:List Int) (v:Value) (B4 B5:Nat) (w:World) (h:RowIn w v l) (hl:l.length<=100000)
   (hK:∀ wx,Bl w wx->∀ x ∈ l,Calls prog 226 #[.int .i64 x,.pointer (some (.mk B4 0 none)),.pointer (some (.mk B5 0 none))] wx fun e w'=>e=.returned (.bool (P x))/\Bl wx w') :
   Calls prog 171 #[v,.func (.func 226) #[] #[.pointer (some (.mk B4 0 none)),.pointer (some (.mk B5 0 none))]] w (IdxQ P l w):=by
 have HK:=hid hK;have HR:=hid (fun (wx:World) (g:Bl w wx)=>(h.zf g).len);obtain ⟨a,c,rfl,hc,_⟩:=h.len;obtain ⟨n,hn⟩:=ex2 l.length;have HN:=hid hn;rw [hn] at hl hc |-;clear h hK hn;go_enter func171,ntmps171;go_wp2_with fail
 go_loopw [8] (fun i wr=>∃ k':Nat,k'<=n/\i=.int .i64 k'/\Bl w wr/\∀ j (hj:j<l.length),j<k'->P l[j]=false) (fun i _=>n - (intOf i).toNat)
 case atStart=>exact ⟨0,by omega,rfl,Below.refl _ _,fun j _ hj=>by omega⟩
 case round =>
  obtain ⟨wo,rfl⟩:=ex1 wr;obtain ⟨i,hi,rfl,hb,hno⟩:=hrel;have HB:=hid hb;have HNo:=hid hno;clear hb hno
  by_cases hlt:i<n
  . have hil:i<l.length:=by rw [HN.o];exact hlt
    obtain ⟨a',c',e,_,q⟩:=HR.o wo HB.o;obtain ⟨b1,o1,ea,hbl,hcl⟩:=q i hil;simp only [Value.slice.injEq] at e;obtain ⟨rfl,e',rfl⟩:=e;clear e';subst ea;have hI:(i:Int)<(n:Int):=by omega
    have hI0:(0:Int)<=(i:Int):=by omega
    have HKv:=hid (HK.o wo HB.o (l[i]'hil) (List.getElem_mem hil))
    have HS:Hid (∀ b,P (l[i]'hil)=b->(b=true->∃ k:Nat,∃ hk:k<l.length,(i:Int)=k/\P l[k]=true/\∀ j (hj:j<l.length),j<k->P l[j]=false)/\(b=false->∀ j (hj:j<l.length),j<i+1->P l[j]=false)):=fun b hb=>⟨fun ht=>⟨i,hil,rfl,by rw [hb,ht],HNo.o⟩,fun hf j hj hji=>by
      by_cases e:j=i
      . subst e;rw [hb,hf]
      . exact HNo.o j hj (by omega)⟩
    obtain ⟨y,hy⟩:=ex2 (l[i]'hil);rw [hy] at hcl HKv;obtain ⟨b,hb⟩:=ex2 (P y);rw [hb] at HKv;have HSb:=hid (HS.o b (by rw [hy];exact hb));clear q hb HS hy
    cases b with
    | true =>
     go_wp2_with fail;(with_reducible refine (HKv.o).mono ?_);rintro e w5 ⟨rfl,g5⟩;go_wp2_with fail;go_ret;exact ⟨_,rfl,.inr (HSb.o.1 (by trivial)),zi HB.o g5⟩
    | false =>
     go_wp2_with fail;(with_reducible refine (HKv.o).mono ?_);rintro e w5 ⟨rfl,g5⟩;go_wp2_with fail;go_roundw
     case rel=>exact ⟨i+1,by omega,by go_num,zi HB.o g5,HSb.o.2 (by trivial)⟩
     case measure=>simp [intOf] <;> omega
  . have hA:Hid (∀ j (hj:j<l.length),P l[j]=false):=hid fun j hj=>HNo.o j hj (by have:=HN.o;omega)
    go_wp2_with fail;go_ret;exact ⟨-1,rfl,.inl ⟨rfl,hA.o⟩,HB.o⟩
theorem zdQ (P:Int->Bool) (l:List Int) (v:Value)  (w:World) (h:RowIn w v l) (hl:l.length<=100000)
   (hK:∀ wx,Bl w wx->∀ x ∈ l,Calls prog 227 #[.int .i64 x] wx fun e w'=>e=.returned (.bool (P x))/\Bl wx w') :
   Calls prog 171 #[v,.func (.func 227) #[] #[]] w (IdxQ P l w):=by
 have HK:=hid hK;have HR:=hid (fun (wx:World) (g:Bl w wx)=>(h.zf g).len);obtain ⟨a,c,rfl,hc,_⟩:=h.len;obtain ⟨n,hn⟩:=ex2 l.length;have HN:=hid hn;rw [hn] at hl hc |-;clear h hK hn;go_enter func171,ntmps171;go_wp2_with fail
 go_loopw [8] (fun i wr=>∃ k':Nat,k'<=n/\i=.int .i64 k'/\Bl w wr/\∀ j (hj:j<l.length),j<k'->P l[j]=false) (fun i _=>n - (intOf i).toNat)
 case atStart=>exact ⟨0,by omega,rfl,Below.refl _ _,fun j _ hj=>by omega⟩
 case round =>
  obtain ⟨wo,rfl⟩:=ex1 wr;obtain ⟨i,hi,rfl,hb,hno⟩:=hrel;have HB:=hid hb;have HNo:=hid hno;clear hb hno
  by_cases hlt:i<n
  . have hil:i<l.length:=by rw [HN.o];exact hlt
    obtain ⟨a',c',e,_,q⟩:=HR.o wo HB.o;obtain ⟨b1,o1,ea,hbl,hcl⟩:=q i hil;simp only [Value.slice.injEq] at e;obtain ⟨rfl,e',rfl⟩:=e;clear e';subst ea;have hI:(i:Int)<(n:Int):=by omega
    have hI0:(0:Int)<=(i:Int):=by omega
    have HKv:=hid (HK.o wo HB.o (l[i]'hil) (List.getElem_mem hil))
    have HS:Hid (∀ b,P (l[i]'hil)=b->(b=true->∃ k:Nat,∃ hk:k<l.length,(i:Int)=k/\P l[k]=true/\∀ j (hj:j<l.length),j<k->P l[j]=false)/\(b=false->∀ j (hj:j<l.length),j<i+1->P l[j]=false)):=fun b hb=>⟨fun ht=>⟨i,hil,rfl,by rw [hb,ht],HNo.o⟩,fun hf j hj hji=>by
      by_cases e:j=i
      . subst e;rw [hb,hf]
      . exact HNo.o j hj (by omega)⟩
    obtain ⟨y,hy⟩:=ex2 (l[i]'hil);rw [hy] at hcl HKv;obtain ⟨b,hb⟩:=ex2 (P y);rw [hb] at HKv;have HSb:=hid (HS.o b (by rw [hy];exact hb));clear q hb HS hy
    cases b with
    | true =>
     go_wp2_with fail;(with_reducible refine (HKv.o).mono ?_);rintro e w5 ⟨rfl,g5⟩;go_wp2_with fail;go_ret;exact ⟨_,rfl,.inr (HSb.o.1 (by trivial)),zi HB.o g5⟩
    | false =>
     go_wp2_with fail;(with_reducible refine (HKv.o).mono ?_);rintro e w5 ⟨rfl,g5⟩;go_wp2_with fail;go_roundw
     case rel=>exact ⟨i+1,by omega,by go_num,zi HB.o g5,HSb.o.2 (by trivial)⟩
     case measure=>simp [intOf] <;> omega
  . have hA:Hid (∀ j (hj:j<l.length),P l[j]=false):=hid fun j hj=>HNo.o j hj (by have:=HN.o;omega)
    go_wp2_with fail;go_ret;exact ⟨-1,rfl,.inl ⟨rfl,hA.o⟩,HB.o⟩
theorem zdR (P:Int->Bool) (l:List Int) (v:Value) (B4 B5:Nat) (w:World) (h:RowIn w v l) (hl:l.length<=100000)
   (hK:∀ wx,Bl w wx->∀ x ∈ l,Calls prog 229 #[.int .i64 x,.pointer (some (.mk B4 0 none)),.pointer (some (.mk B5 0 none))] wx fun e w'=>e=.returned (.bool (P x))/\Bl wx w') :
   Calls prog 171 #[v,.func (.func 229) #[] #[.pointer (some (.mk B4 0 none)),.pointer (some (.mk B5 0 none))]] w (IdxQ P l w):=by
 have HK:=hid hK;have HR:=hid (fun (wx:World) (g:Bl w wx)=>(h.zf g).len);obtain ⟨a,c,rfl,hc,_⟩:=h.len;obtain ⟨n,hn⟩:=ex2 l.length;have HN:=hid hn;rw [hn] at hl hc |-;clear h hK hn;go_enter func171,ntmps171;go_wp2_with fail
 go_loopw [8] (fun i wr=>∃ k':Nat,k'<=n/\i=.int .i64 k'/\Bl w wr/\∀ j (hj:j<l.length),j<k'->P l[j]=false) (fun i _=>n - (intOf i).toNat)
 case atStart=>exact ⟨0,by omega,rfl,Below.refl _ _,fun j _ hj=>by omega⟩
 case round =>
  obtain ⟨wo,rfl⟩:=ex1 wr;obtain ⟨i,hi,rfl,hb,hno⟩:=hrel;have HB:=hid hb;have HNo:=hid hno;clear hb hno
  by_cases hlt:i<n
  . have hil:i<l.length:=by rw [HN.o];exact hlt
    obtain ⟨a',c',e,_,q⟩:=HR.o wo HB.o;obtain ⟨b1,o1,ea,hbl,hcl⟩:=q i hil;simp only [Value.slice.injEq] at e;obtain ⟨rfl,e',rfl⟩:=e;clear e';subst ea;have hI:(i:Int)<(n:Int):=by omega
    have hI0:(0:Int)<=(i:Int):=by omega
    have HKv:=hid (HK.o wo HB.o (l[i]'hil) (List.getElem_mem hil))
    have HS:Hid (∀ b,P (l[i]'hil)=b->(b=true->∃ k:Nat,∃ hk:k<l.length,(i:Int)=k/\P l[k]=true/\∀ j (hj:j<l.length),j<k->P l[j]=false)/\(b=false->∀ j (hj:j<l.length),j<i+1->P l[j]=false)):=fun b hb=>⟨fun ht=>⟨i,hil,rfl,by rw [hb,ht],HNo.o⟩,fun hf j hj hji=>by
      by_cases e:j=i
      . subst e;rw [hb,hf]
      . exact HNo.o j hj (by omega)⟩
    obtain ⟨y,hy⟩:=ex2 (l[i]'hil);rw [hy] at hcl HKv;obtain ⟨b,hb⟩:=ex2 (P y);rw [hb] at HKv;have HSb:=hid (HS.o b (by rw [hy];exact hb));clear q hb HS hy
    cases b with
    | true =>
     go_wp2_with fail;(with_reducible refine (HKv.o).mono ?_);rintro e w5 ⟨rfl,g5⟩;go_wp2_with fail;go_ret;exact ⟨_,rfl,.inr (HSb.o.1 (by trivial)),zi HB.o g5⟩
    | false =>
     go_wp2_with fail;(with_reducible refine (HKv.o).mono ?_);rintro e w5 ⟨rfl,g5⟩;go_wp2_with fail;go_roundw
     case rel=>exact ⟨i+1,by omega,by go_num,zi HB.o g5,HSb.o.2 (by trivial)⟩
     case measure=>simp [intOf] <;> omega
  . have hA:Hid (∀ j (hj:j<l.length),P l[j]=false):=hid fun j hj=>HNo.o j hj (by have:=HN.o;omega)
    go_wp2_with fail;go_ret;exact ⟨-1,rfl,.inl ⟨rfl,hA.o⟩,HB.o⟩
theorem zfv (P:Int->Bool) (l:List Int) (v:Value) (B4 B5:Nat) (w:World) (h:RowIn w v l) (hl:l.length<=100000)
   (hK:∀ wx,Bl w wx->∀ x ∈ l,Calls prog 229 #[.int .i64 x,.pointer (some (.mk B4 0 none)),.pointer (some (.mk B5 0 none))] wx fun e w'=>e=.returned (.bool (P x))/\Bl wx w') :
   Calls prog 96 #[v,.func (.func 229) #[] #[.pointer (some (.mk B4 0 none)),.pointer (some (.mk B5 0 none))]] w fun e w'=>e=.returned (.bool (l.any P))/\Bl w w':=by
 have HC:=hid (zdR P l v B4 B5 w h hl hK);clear h hK;go_enter func96,ntmps96;go_wp2_with ((with_reducible refine (HC.o).mono ?_);rintro e w' ⟨i,rfl,hi,hb⟩);go_ret;refine ⟨?_,hb⟩
 rcases hi with ⟨rfl,hno⟩ | ⟨k,hk,rfl,hp,_⟩
 . rw [any_no hno];rfl
 . rw [zeB hk hp];simp
theorem zdS (P:Int->Bool) (l:List Int) (v:Value) (B4 B5:Nat) (N:Nat) (w:World) (h:w.ownsRow N 3 1 v l.length (nums l)) (hN:N<=w.heap.size) (hl:l.length<=100000)
   (hK:∀ wx,Below N w wx->∀ x ∈ l,Calls prog 226 #[.int .i64 x,.pointer (some (.mk B4 0 none)),.pointer (some (.mk B5 0 none))] wx fun e w'=>e=.returned (.bool (P x))/\Bl wx w') :
   Calls prog 225 #[v,.func (.func 226) #[] #[.pointer (some (.mk B4 0 none)),.pointer (some (.mk B5 0 none))]] w (DelP P l N w):=by
 obtain ⟨a,c,rfl⟩:=zj h;have HI:=hid (zdP P l (.slice a l.length c) B4 B5 w (RowIn.own h) hl (fun wx g=>hK wx (g.mono hN)));have HK:=hid hK;have HO:=hid h;obtain ⟨n,hn⟩:=ex2 l.length;have HN:=hid hn;have HNw:=hid hN;rw [hn] at HI HO hl |-;clear h hK hn hN;go_enter func225,ntmps225;go_wp2_with fail;(with_reducible refine (HI.o).mono ?_);rintro e w2 ⟨i,rfl,hi,g2⟩;have HB2:Hid (Below N w w2):=hid (g2.mono HNw.o);have HO2:=hid (zu HO.o g2);clear g2 HO HI
 rcases hi with ⟨rfl,hno⟩ | ⟨k,hk,rfl,hp,hno⟩
 . have HE:Hid (l.filter (fun x=>!P x)=l):=hid (List.filter_eq_self.2 fun x hx=>by
     obtain ⟨j,hj,rfl⟩:=List.getElem_of_mem hx;rw [hno j hj];rfl)
   clear hno;go_wp2_with fail;go_ret;unfold DelP;rw [HE.o];exact ⟨_,rfl,by rw [HN.o];exact HO2.o,HB2.o⟩
 . have hkn:k<n:=by rw [<- HN.o];exact hk
   obtain ⟨g,c',e⟩:=zF HO2.o (by omega);simp only [Value.slice.injEq,true_and] at e;obtain ⟨rfl,rfl⟩:=e;have hcap:=zJ HO2.o;have hd:((k:Int) == -1)=false:=by rw [beq_eq_false_iff_ne];omega
   have HD:=hid (Del.start hk hp hno)
   have HZ:Hid (∀ (wo:World) (cur:List Int) (i:Nat),wo.ownsRow N 3 1 (.slice (some ⟨g,0,none⟩) n c) n (nums cur)->i<n->∀ ty,(Builtin.clear_ #[31] ty #[.slice (some ⟨g,i,none⟩) (n - i) (c - i)]).run prog wo=.ok (.tuple #[]) (wo.setCells g i (List.replicate (n - i) (.int .i64 0)))):=hid fun wo cur i ho hi ty=>by
     refine Lib.run_clear_slice wo _ _ ty _ underlying31 zcW rfl rfl g i _ _ (by omega) (fun t ht=>?_) (fun t ht=>?_)
     . rw [ho.cellAt (i+t) (by omega),List.getElem?_eq_getElem (by rw [ho.1];omega)];rfl
     . exact ho.frozenAt (i+t)
   clear hp hno hk;go_wp2_with fail
   go_loopw [5,6] (fun i j wr=>∃ (i' j':Nat) (cur:List Int),i=.int .i64 i'/\j=.int .i64 j'/\Del P l cur i' j'/\Below N w wr/\wr.ownsRow N 3 1 (.slice (some ⟨g,0,none⟩) n c) n (nums cur)) (fun _ j _=>n - (intOf j).toNat)
   case atStart=>exact ⟨k,k+1,l,rfl,by go_num,HD.o,HB2.o,HO2.o⟩
   case round =>
    obtain ⟨wo,rfl⟩:=ex1 wr;obtain ⟨i,j,cur,rfl,rfl,hD,hb,ho⟩:=hrel;have hij:=hD.lt;have hjn:j<=n:=by rw [<- HN.o];exact hD.le
    have HDo:=hid hD;have HBo:=hid hb;have HOo:=hid ho;have hgN:=(ho.lt g rfl).1;have hNo:N<=wo.heap.size:=Nat.le_trans HNw.o hb.size;clear hD hb ho HD HB2 HO2
    by_cases hlt:j<n
    . have hjl:j<l.length:=by rw [HN.o];exact hlt
      have hI:(j:Int)<(n:Int):=by omega
      have hI0:(0:Int)<=(j:Int):=by omega
      have hi1:(i:Int)<(n:Int):=by omega
      have hi0:(0:Int)<=(i:Int):=by omega
      have cj:wo.cell? ⟨g,j,none⟩=some (.int .i64 l[j]):=(HOo.o.cellAt j (by omega)).trans (by
        unfold nums;rw [List.getElem?_map,HDo.o.rst j (Nat.le_refl _),List.getElem?_eq_getElem hjl];rfl)
      have HKv:=hid (HK.o wo HBo.o l[j] (List.getElem_mem hjl));have HSk:=hid (fun hp=>HDo.o.keep hjl hp);have HSs:=hid (fun hp=>HDo.o.skip hjl hp);have HLc:Hid (cur.length=n):=hid (by rw [HDo.o.len];exact HN.o);obtain ⟨y,hy⟩:=ex2 (l[j]);rw [hy] at cj HKv HSk HSs;clear hy HDo
      cases hp:P y with
      | false =>
       rw [hp] at HKv;have HDn:=hid (HSk.o hp);clear HSk HSs hp;go_wp2_with fail;(with_reducible refine (HKv.o).mono ?_);rintro e w5 ⟨rfl,g5⟩;have HO5:=hid (zu HOo.o g5);have HB5:=hid (HBo.o.trans (g5.mono hNo));obtain ⟨x,hx⟩:∃ x,(nums cur)[i]? = some x:=⟨_,List.getElem?_eq_getElem (by unfold nums;rw [List.length_map,HLc.o];omega)⟩;have ci:w5.cell? ⟨g,i,none⟩=some x:=(HO5.o.cellAt i (by omega)).trans hx;have fi:=HO5.o.frozenAt i;have HFin:Hid (Below N w (w5.setCell ⟨g,i,none⟩ (.int .i64 y))/\(w5.setCell ⟨g,i,none⟩ (.int .i64 y)).ownsRow N 3 1 (.slice (some ⟨g,0,none⟩) n c) n (nums (cur.set i y))):=hid ⟨HB5.o.setCell (p:=⟨g,i,none⟩) hgN _,by rw [zau];exact (HO5.o.stored i (.int .i64 y)).1⟩;clear hx HOo HBo HO5 HB5 g5 cj;go_wp2_with fail;go_roundw
       case rel=>exact ⟨i+1,j+1,_,by go_num,by go_num,HDn.o,HFin.o⟩
       case measure=>simp [intOf] <;> omega
      | true =>
       rw [hp] at HKv;have HDn:=hid (HSs.o hp);clear HSk HSs hp;go_wp2_with fail;(with_reducible refine (HKv.o).mono ?_);rintro e w5 ⟨rfl,g5⟩;go_wp2_with fail;go_roundw
       case rel=>exact ⟨i,j+1,cur,rfl,by go_num,HDn.o,HBo.o.trans (g5.mono hNo),zu HOo.o g5⟩
       case measure=>simp [intOf] <;> omega
    . obtain rfl:n=j:=by omega
      have hcl:=HZ.o wo cur i HOo.o hij;have HDe:Hid (cur.take i=l.filter fun x=>!P x):=hid (by have:=HDo.o;rw [<- HN.o] at this;exact this.done);have HLc:Hid (cur.length=n):=hid (by rw [HDo.o.len];exact HN.o);have hi1:(i:Int)<(n:Int):=by omega
      have hi0:(0:Int)<=(i:Int):=by omega
      clear HDo hlt;go_wp2_with fail;go_ret;have e1:=zav (List.replicate (n - i) (.int .i64 0)) i (zey HOo.o (i:=i) (by omega)) (Nat.le_refl _);have e2:(nums cur).take i=nums (l.filter fun x=>!P x):=by rw [<- HDe.o];unfold nums;rw [List.map_take]
      have e3:(l.filter fun x=>!P x).length=i:=by rw [<- HDe.o,List.length_take,HLc.o];omega
      rw [e2] at e1;unfold DelP;rw [e3];exact ⟨_,rfl,e1,jL hgN _ _ HBo.o⟩
theorem zdT (P:Int->Bool) (l:List Int) (v:Value)  (N:Nat) (w:World) (h:w.ownsRow N 3 1 v l.length (nums l)) (hN:N<=w.heap.size) (hl:l.length<=100000)
   (hK:∀ wx,Below N w wx->∀ x ∈ l,Calls prog 227 #[.int .i64 x] wx fun e w'=>e=.returned (.bool (P x))/\Bl wx w') :
   Calls prog 225 #[v,.func (.func 227) #[] #[]] w (DelP P l N w):=by
 obtain ⟨a,c,rfl⟩:=zj h;have HI:=hid (zdQ P l (.slice a l.length c)  w (RowIn.own h) hl (fun wx g=>hK wx (g.mono hN)));have HK:=hid hK;have HO:=hid h;obtain ⟨n,hn⟩:=ex2 l.length;have HN:=hid hn;have HNw:=hid hN;rw [hn] at HI HO hl |-;clear h hK hn hN;go_enter func225,ntmps225;go_wp2_with fail;(with_reducible refine (HI.o).mono ?_);rintro e w2 ⟨i,rfl,hi,g2⟩;have HB2:Hid (Below N w w2):=hid (g2.mono HNw.o);have HO2:=hid (zu HO.o g2);clear g2 HO HI
 rcases hi with ⟨rfl,hno⟩ | ⟨k,hk,rfl,hp,hno⟩
 . have HE:Hid (l.filter (fun x=>!P x)=l):=hid (List.filter_eq_self.2 fun x hx=>by
     obtain ⟨j,hj,rfl⟩:=List.getElem_of_mem hx;rw [hno j hj];rfl)
   clear hno;go_wp2_with fail;go_ret;unfold DelP;rw [HE.o];exact ⟨_,rfl,by rw [HN.o];exact HO2.o,HB2.o⟩
 . have hkn:k<n:=by rw [<- HN.o];exact hk
   obtain ⟨g,c',e⟩:=zF HO2.o (by omega);simp only [Value.slice.injEq,true_and] at e;obtain ⟨rfl,rfl⟩:=e;have hcap:=zJ HO2.o;have hd:((k:Int) == -1)=false:=by rw [beq_eq_false_iff_ne];omega
   have HD:=hid (Del.start hk hp hno)
   have HZ:Hid (∀ (wo:World) (cur:List Int) (i:Nat),wo.ownsRow N 3 1 (.slice (some ⟨g,0,none⟩) n c) n (nums cur)->i<n->∀ ty,(Builtin.clear_ #[31] ty #[.slice (some ⟨g,i,none⟩) (n - i) (c - i)]).run prog wo=.ok (.tuple #[]) (wo.setCells g i (List.replicate (n - i) (.int .i64 0)))):=hid fun wo cur i ho hi ty=>by
     refine Lib.run_clear_slice wo _ _ ty _ underlying31 zcW rfl rfl g i _ _ (by omega) (fun t ht=>?_) (fun t ht=>?_)
     . rw [ho.cellAt (i+t) (by omega),List.getElem?_eq_getElem (by rw [ho.1];omega)];rfl
     . exact ho.frozenAt (i+t)
   clear hp hno hk;go_wp2_with fail
   go_loopw [5,6] (fun i j wr=>∃ (i' j':Nat) (cur:List Int),i=.int .i64 i'/\j=.int .i64 j'/\Del P l cur i' j'/\Below N w wr/\wr.ownsRow N 3 1 (.slice (some ⟨g,0,none⟩) n c) n (nums cur)) (fun _ j _=>n - (intOf j).toNat)
   case atStart=>exact ⟨k,k+1,l,rfl,by go_num,HD.o,HB2.o,HO2.o⟩
   case round =>
    obtain ⟨wo,rfl⟩:=ex1 wr;obtain ⟨i,j,cur,rfl,rfl,hD,hb,ho⟩:=hrel;have hij:=hD.lt;have hjn:j<=n:=by rw [<- HN.o];exact hD.le
    have HDo:=hid hD;have HBo:=hid hb;have HOo:=hid ho;have hgN:=(ho.lt g rfl).1;have hNo:N<=wo.heap.size:=Nat.le_trans HNw.o hb.size;clear hD hb ho HD HB2 HO2
    by_cases hlt:j<n
    . have hjl:j<l.length:=by rw [HN.o];exact hlt
      have hI:(j:Int)<(n:Int):=by omega
      have hI0:(0:Int)<=(j:Int):=by omega
      have hi1:(i:Int)<(n:Int):=by omega
      have hi0:(0:Int)<=(i:Int):=by omega
      have cj:wo.cell? ⟨g,j,none⟩=some (.int .i64 l[j]):=(HOo.o.cellAt j (by omega)).trans (by
        unfold nums;rw [List.getElem?_map,HDo.o.rst j (Nat.le_refl _),List.getElem?_eq_getElem hjl];rfl)
      have HKv:=hid (HK.o wo HBo.o l[j] (List.getElem_mem hjl));have HSk:=hid (fun hp=>HDo.o.keep hjl hp);have HSs:=hid (fun hp=>HDo.o.skip hjl hp);have HLc:Hid (cur.length=n):=hid (by rw [HDo.o.len];exact HN.o);obtain ⟨y,hy⟩:=ex2 (l[j]);rw [hy] at cj HKv HSk HSs;clear hy HDo
      cases hp:P y with
      | false =>
       rw [hp] at HKv;have HDn:=hid (HSk.o hp);clear HSk HSs hp;go_wp2_with fail;(with_reducible refine (HKv.o).mono ?_);rintro e w5 ⟨rfl,g5⟩;have HO5:=hid (zu HOo.o g5);have HB5:=hid (HBo.o.trans (g5.mono hNo));obtain ⟨x,hx⟩:∃ x,(nums cur)[i]? = some x:=⟨_,List.getElem?_eq_getElem (by unfold nums;rw [List.length_map,HLc.o];omega)⟩;have ci:w5.cell? ⟨g,i,none⟩=some x:=(HO5.o.cellAt i (by omega)).trans hx;have fi:=HO5.o.frozenAt i;have HFin:Hid (Below N w (w5.setCell ⟨g,i,none⟩ (.int .i64 y))/\(w5.setCell ⟨g,i,none⟩ (.int .i64 y)).ownsRow N 3 1 (.slice (some ⟨g,0,none⟩) n c) n (nums (cur.set i y))):=hid ⟨HB5.o.setCell (p:=⟨g,i,none⟩) hgN _,by rw [zau];exact (HO5.o.stored i (.int .i64 y)).1⟩;clear hx HOo HBo HO5 HB5 g5 cj;go_wp2_with fail;go_roundw
       case rel=>exact ⟨i+1,j+1,_,by go_num,by go_num,HDn.o,HFin.o⟩
       case measure=>simp [intOf] <;> omega
      | true =>
       rw [hp] at HKv;have HDn:=hid (HSs.o hp);clear HSk HSs hp;go_wp2_with fail;(with_reducible refine (HKv.o).mono ?_);rintro e w5 ⟨rfl,g5⟩;go_wp2_with fail;go_roundw
       case rel=>exact ⟨i,j+1,cur,rfl,by go_num,HDn.o,HBo.o.trans (g5.mono hNo),zu HOo.o g5⟩
       case measure=>simp [intOf] <;> omega
    . obtain rfl:n=j:=by omega
      have hcl:=HZ.o wo cur i HOo.o hij;have HDe:Hid (cur.take i=l.filter fun x=>!P x):=hid (by have:=HDo.o;rw [<- HN.o] at this;exact this.done);have HLc:Hid (cur.length=n):=hid (by rw [HDo.o.len];exact HN.o);have hi1:(i:Int)<(n:Int):=by omega
      have hi0:(0:Int)<=(i:Int):=by omega
      clear HDo hlt;go_wp2_with fail;go_ret;have e1:=zav (List.replicate (n - i) (.int .i64 0)) i (zey HOo.o (i:=i) (by omega)) (Nat.le_refl _);have e2:(nums cur).take i=nums (l.filter fun x=>!P x):=by rw [<- HDe.o];unfold nums;rw [List.map_take]
      have e3:(l.filter fun x=>!P x).length=i:=by rw [<- HDe.o,List.length_take,HLc.o];omega
      rw [e2] at e1;unfold DelP;rw [e3];exact ⟨_,rfl,e1,jL hgN _ _ HBo.o⟩
theorem fin_kd (m:MdlD) (v:Int):ofKd m [2] v=finM m v:=by
 unfold ofKd finM hasN
 cases hasV m v <;> simp
theorem sta_kd (m:MdlD) (v:Int):ofKd m [1] v=stA m v:=by
 unfold ofKd stA hasN
 cases hasV m v <;> simp
theorem zaw {m:MdlD} {v:Int} (h:stA m v=true):stands m v=true:=by
 unfold stA at h;rw [Bool.and_eq_true,beq_iff_eq] at h;obtain ⟨k,rfl,hk⟩:=zN h.1;rw [qP hk] at h;rw [yg hk,h.2];rfl
def compl (m:MdlD) (la ll:List Int) (v:Int):Bool:=cmpM m la ll v (fit2 m la ll)
theorem compl_no {m:MdlD} {la ll:List Int} {v:Int} (h:fit2 m la ll=false\/stA m v=false\/isA m la v=false):compl m la ll v=false:=by
 unfold compl cmpM
 rcases h with h | h | h <;> rw [h] <;> simp
theorem zfw {m:MdlD} {la ll:List Int} {v:Int} (h1:fit2 m la ll=true) (h2:stA m v=true) (h3:isA m la v=true) {b:Bool} (hb:((ownM m v).any fun q=>!finM m (atL la q))=b):compl m la ll v=!b:=by
 unfold compl cmpM;rw [h1,h2,h3,hb];rfl
theorem za7 {B:Nat} {m:MdlD} {SB:Nat} {la ll:List Int} {a1 a2:Option Addr} {c1 c2 H B4:Nat} {w:World} (h:SetAt B m SB w) (hc:Cb la ll a1 a2 c1 c2 H w) (h4:w.cell? ⟨B4,0,none⟩=some (.pointer (some ⟨SB,0,none⟩))) (r:Nat) (hr:r<la.length) :
   Calls prog 229 #[.int .i64 (r:Int),.pointer (some (.mk B4 0 none)),.pointer (some (.mk H 0 none))] w fun e w'=>e=.returned (.bool (!finM m (atL la r)))/\Bl w w':=by
 have IS:=hid (fun (v:Int)=>(qo (h.grown ((zg w (.cells #[.int .u8 2] 5)).drew)) v (.slice (some ⟨w.heap.size,0,none⟩) 1 1) [2] ((RowU.fresh w [2] #[.int .u8 2] rfl 1 rfl _ rfl).zf (Below.refl _ _).drew) (by decide)).mono (fun e w' q=>(show e=.returned (.bool (finM m v))/\Bl w w' from ⟨by rw [<- fin_kd];exact q.1,((zg w (.cells #[.int .u8 2] 5)).drew).trans (q.2.mono (by simp))⟩)));obtain ⟨b,o,ea,hb,hcp,hcl⟩:=hc.at hr;have d0:=hc.d0;have z4:=World.block_lt_of_cell? w _ h4;have zH:=hc.lt;subst ea;have hI:(r:Int)<(la.length:Int):=by omega
 have hI0:(0:Int)<=(r:Int):=by omega
 generalize atL la r=y at *;have ISy:=hid (IS.o y);have HSS:Hid (∀ W',Bl w W'->W'.cell? ⟨B4,0,none⟩=some (.pointer (some ⟨SB,0,none⟩))/\W'.cell? ⟨H,0,none⟩=some (.slice (some ⟨b,o,none⟩) la.length c1)/\W'.cell? ⟨b,o+r,none⟩=some (.int .i64 y)):=hid fun W' g=>⟨(g.cell (p:=⟨B4,0,none⟩) z4).trans h4,(g.cell (p:=⟨H,0,none⟩) zH).trans d0,(g.cell (p:=⟨b,o+r,none⟩) hb).trans hcl⟩;have hB0:Bl w w:=Below.refl _ _;clear h hc h4 z4 zH hb d0 hcl IS;go_enter func229,ntmps229;go_upto_region 1 with fail;refine wp_region_any (by kernel_rfl) ?_;change wpAny _ _ _ _ _ _ _ (World.drew _);refine hld HSS.o (hB0.drew) (fun hHeld=>?_);refine tk 0 rfl ?_;refine tk 1 rfl ?_;refine tk 2 rfl ?_;refine tk 3 rfl ?_;refine tk 4 rfl ?_;refine tk 5 rfl ?_;refine rd1 6 (fun K hK=>?_);(go_simp);refine nx hK ?_ (fun hH1=>?_);(first | exact HSS.o _ hB0.drew | exact HSS.o _ (hB0.drew.alloc (Nat.le_refl _) _) | exact HSS.o _ (hB0.alloc (Nat.le_refl _) _).drew | exact HSS.o _ (by assumption));clear hK K hHeld;refine rd1 7 (fun K hK=>?_);(go_simp;(with_reducible refine (ISy.o).mono ?_);rintro e w9 ⟨rfl,hB9⟩;go_wp2_with fail);refine nx hK ?_ (fun hH2=>?_);(first | exact HSS.o _ hB0.drew | exact HSS.o _ (hB0.drew.alloc (Nat.le_refl _) _) | exact HSS.o _ (hB0.alloc (Nat.le_refl _) _).drew | exact HSS.o _ (by assumption));clear hK K hH1;refine tk 8 rfl ?_;refine tk 9 rfl ?_;refine dn ?_;rotate_left
 all_goals
   go_wp2_with fail;go_ret;exact ⟨rfl,hB9⟩
theorem jX {B:Nat} {m:MdlD} {SB:Nat} {w:World} (h:SetAt B m SB w) (h0:riM m=(0,0,0)) (hm1:m.zb.length<=1000) (hm2:m.zc.length<=1000) (la ll:List Int) (a1 a2:Option Addr) (c1 c2:Nat) (h1:RowIn w (.slice a1 la.length c1) la) (h2:RowIn w (.slice a2 ll.length c2) ll) (b1:la.length<=140737488355328) (b2:ll.length<=140737488355328) (v:Int) :
   Calls prog 145 #[.pointer (some ⟨SB,0,none⟩),.agg #[.slice a1 la.length c1,.slice a2 ll.length c2],.int .i64 v] w fun e w'=>e=.returned (.bool (compl m la ll v))/\Bl w w':=by
 have HB1:Hid (Bl w ((w.alloc (.cells #[.pointer (some ⟨SB,0,none⟩)] 77)).alloc (.cells #[.slice a1 la.length c1,.slice a2 ll.length c2] 74))):=hid (zq w _ _)
 have HC0:Hid (Cb la ll a1 a2 c1 c2 (w.heap.size+1) ((w.alloc (.cells #[.pointer (some ⟨SB,0,none⟩)] 77)).alloc (.cells #[.slice a1 la.length c1,.slice a2 ll.length c2] 74))):=hid (by
   have:=Cb.made (h1.zf (zg w (.cells #[.pointer (some ⟨SB,0,none⟩)] 77))) (h2.zf (zg w (.cells #[.pointer (some ⟨SB,0,none⟩)] 77)));rwa [World.size_alloc] at this)
 have t0:((w.alloc (.cells #[.pointer (some ⟨SB,0,none⟩)] 77)).alloc (.cells #[.slice a1 la.length c1,.slice a2 ll.length c2] 74)).cell? ⟨w.heap.size,0,none⟩=some (.pointer (some ⟨SB,0,none⟩)):=by
   exact ((zg (w.alloc (.cells #[.pointer (some ⟨SB,0,none⟩)] 77)) (.cells #[.slice a1 la.length c1,.slice a2 ll.length c2] 74)).cell (p:=⟨w.heap.size,0,none⟩) (by simp)).trans (by simp)
 have hz1:((w.alloc (.cells #[.pointer (some ⟨SB,0,none⟩)] 77)).alloc (.cells #[.slice a1 la.length c1,.slice a2 ll.length c2] 74)).heap.size=w.heap.size+1+1:=by simp
 have HAw:=hid (fun wx (g:Bl w wx)=>h.grown g);have HN:=hid (fun hh=>compl_no (m:=m) (la:=la) (ll:=ll) (v:=v) hh);have HY:=hid (fun q1 q2 q3 b hb=>zfw (m:=m) (la:=la) (ll:=ll) (v:=v) q1 q2 q3 (b:=b) hb);have FT:=hid (fun wx (hs:SetAt B m SB wx) (hc:Cb la ll a1 a2 c1 c2 (w.heap.size+1) wx)=>yx hs h0 la ll a1 a2 c1 c2 hc.r1 hc.r2 b1 b2 (by omega));have IS:=hid (fun wx (hs:SetAt B m SB wx)=>(qo (hs.grown (zg wx (.cells #[.int .u8 1] 5))) v (.slice (some ⟨wx.heap.size,0,none⟩) 1 1) [1] (RowU.fresh wx [1] _ rfl 1 rfl _ rfl) (by decide)).mono (fun e w' q=>(show e=.returned (.bool (stA m v))/\Bl wx w' from ⟨by rw [<- sta_kd];exact q.1,zl q.2⟩)));have HF:=hid (fun hf:fit2 m la ll=true=>(kA h0 hf).1);have AC:=hid (fun wx (hs:SetAt B m SB wx) (hc:Cb la ll a1 a2 c1 c2 (w.heap.size+1) wx) (k r:Nat) hk hr hrl=>qO hs hm2 la ll a1 a2 c1 c2 hc.r1 hc.r2 k r hk hr hrl);have H0:=hid h0;generalize compl m la ll v=X at *;obtain ⟨fb,hfb⟩:=ex2 (fit2 m la ll);obtain ⟨sb,hsb⟩:=ex2 (stA m v);rw [hfb] at HN HY FT HF;rw [hsb] at HN HY IS;have HSb:=hid hsb;clear h h1 h2 b1 b2 h0 hfb hsb;go_enter func145,ntmps145;go_upto_region 1 with fail;generalize (w.alloc (.cells #[.pointer (some ⟨SB,0,none⟩)] 77)).alloc (.cells #[.slice a1 la.length c1,.slice a2 ll.length c2] 74)=W1 at *;have HT:Hid (∀ wx,Bl W1 wx->wx.cell? ⟨w.heap.size,0,none⟩=some (.pointer (some ⟨SB,0,none⟩))):=hid fun wx g=>(g.cell (p:=⟨w.heap.size,0,none⟩) (by simp only;omega)).trans t0
 have d0:=HC0.o.d0;have d1:=HC0.o.d1;have FTx:=hid (FT.o W1 (HAw.o W1 HB1.o) HC0.o)
 cases fb
 . have HX:=hid (HN.o (.inl rfl))
   clear HN HY;go_wp2_with fail;(with_reducible refine (FTx.o).mono ?_);rintro e w2 ⟨rfl,g2⟩;go_wp2_with fail;go_ret;exact ⟨by rw [HX.o];first | done | rfl,HB1.o.trans (g2.mono HB1.o.size)⟩
 have F:=HF.o rfl;have HFt:=hid F;clear HF F;go_wp2_with fail;(with_reducible refine (FTx.o).mono ?_);rintro e w2 ⟨rfl,g2⟩;have HG2:=hid g2;have HB2:Hid (Bl w w2):=hid (HB1.o.trans (g2.mono HB1.o.size));have HC2:=hid (HC0.o.zf g2);clear t0 d0 d1 FTx FT g2 HC0;have t0:=HT.o w2 HG2.o;have ISx:=hid (IS.o w2 (HAw.o w2 HB2.o));clear IS
 cases sb
 . have HX:=hid (HN.o (.inr (.inl rfl)))
   clear HN HY;go_wp2_with fail;(with_reducible refine (ISx.o).mono ?_);rintro e w3 ⟨rfl,g3⟩;go_wp2_with fail;go_ret;exact ⟨by rw [HX.o];first | done | rfl,HB2.o.trans (g3.mono HB2.o.size)⟩
 obtain ⟨k,hk,rfl,r,hr,er1,er2,er3,er4,er5⟩:=zD H0.o (zaw HSb.o);have hrl:r<la.length:=by rw [HFt.o.hl];exact hr
 have HIs:Hid (∀ y,(atL la r == (k:Int))=y->isA m la k=y):=hid fun y hy=>by
   unfold isA;rw [zaw HSb.o,er1,hy];rfl
 go_wp2_with fail;(with_reducible refine (ISx.o).mono ?_);rintro e w3 ⟨rfl,g3⟩;have HG3:=hid (zi HG2.o g3);have HB3:Hid (Bl w w3):=hid (HB2.o.trans (g3.mono HB2.o.size));have HC3:=hid (HC2.o.zf g3);have ACx:=hid (AC.o w3 (HAw.o w3 HB3.o) HC3.o k r hk er2 hrl);obtain ⟨y,hy⟩:∃ y,(atL la r == (k:Int))=y:=⟨_,rfl⟩;rw [hy] at ACx;have HIy:=hid (HIs.o y hy);clear t0 g3 HC2 HB2 HG2 ISx AC HIs hy er1 er2 er3 er4 er5;have t0:=HT.o w3 HG3.o;have d0:=HC3.o.d0;have d1:=HC3.o.d1
 cases y
 . have HX:=hid (HN.o (.inr (.inr HIy.o)))
   clear HN HY;go_wp2_with fail;(with_reducible refine (ACx.o).mono ?_);rintro e w4 ⟨rfl,g4⟩;go_wp2_with fail;go_ret;exact ⟨by rw [HX.o];first | done | rfl,HB3.o.trans (g4.mono HB3.o.size)⟩
 have HYx:=hid (HY.o (by trivial) (by trivial) HIy.o);clear HN HY HIy;go_wp2_with fail;(with_reducible refine (ACx.o).mono ?_);rintro e w4 ⟨rfl,g4⟩;have HG4:=hid (zi HG3.o g4);have HB4:Hid (Bl w w4):=hid (HB3.o.trans (g4.mono HB3.o.size));have HC4:=hid (HC3.o.zf g4);clear t0 d0 d1 g4 HC3 HB3 HG3 ACx;have t0:=HT.o w4 HG4.o;obtain ⟨IB,kv,hi,s0,s1,s2,hku,hzS⟩:=HAw.o w4 HB4.o;have HRg:=hid (jg hi (k:Int) (WalkArith.wf_i64 ⟨by omega,by omega⟩) (by omega));have hOl:(ownM m (k:Int)).length<=1000:=by have:=zV (isOwn (k:Int)) m.zb;have e:(ownM m (k:Int)).length<=m.zb.length:=this;omega
 have HCt:=hid (fun wx (g:Bl w4 wx) (rv:Value) (hr:RowIn wx rv (ownM m (k:Int)))=>zfv (fun q=>!finM m (atL la q)) (ownM m (k:Int)) rv w.heap.size (w.heap.size+1) wx hr (by omega) (fun wy gy x hx=>by
   obtain ⟨j,hj,rfl,_⟩:=yE hx;exact za7 (HAw.o wy (HB4.o.trans ((g.trans (gy.mono g.size)).mono HB4.o.size))) (HC4.o.zf (zi g gy)) (HT.o wy (zi (zi HG4.o g) gy)) j (by rw [HFt.o.hl];exact hj)))
 clear hi hku s1 s2;go_wp2_with fail;(with_reducible refine (HRg.o).mono ?_);rintro e w5 ⟨rv,rfl,o5,g5⟩;obtain ⟨ra,rc,rfl⟩:=zj o5;have HCt5:=hid (HCt.o w5 g5 _ (RowIn.own o5));have HYv:=hid (HYx.o _ rfl);have HB5:Hid (Bl w w5):=hid (HB4.o.trans (g5.mono HB4.o.size));clear o5 g5 HRg HCt HYx;generalize (ownM m (k:Int)).any (fun q=>!finM m (atL la q))=bz at *;go_wp2_with fail;(with_reducible refine (HCt5.o).mono ?_);rintro e w6 ⟨rfl,g6⟩;go_wp2_with fail;go_ret;exact ⟨by rw [HYv.o];first | done | rfl,HB5.o.trans (g6.mono HB5.o.size)⟩
theorem zca {B:Nat} {m:MdlD} {SB:Nat} {w:World} (h:SetAt B m SB w) (h0:riM m=(0,0,0)) (v r:Int) (B4 B5:Nat) (h4:w.cell? ⟨B4,0,none⟩=some (.pointer (some ⟨SB,0,none⟩))) (h5:w.cell? ⟨B5,0,none⟩=some (.int .i64 r)) :
   Calls prog 226 #[.int .i64 v,.pointer (some (.mk B4 0 none)),.pointer (some (.mk B5 0 none))] w fun e w'=>e=.returned (.bool (!inM m v r))/\Bl w w':=by
 obtain ⟨IB,kv,hi,s0,s1,s2,hku,hz⟩:=h;have HC:=hid (fun wx (g:Bl w wx)=>zdx (hi.grown g) v r h0);have z4:=World.block_lt_of_cell? w _ h4;have z5:=World.block_lt_of_cell? w _ h5;have HSS:Hid (∀ W',Bl w W'->W'.cell? ⟨B4,0,none⟩=some (.pointer (some ⟨SB,0,none⟩))/\W'.cell? ⟨B5,0,none⟩=some (.int .i64 r)/\W'.cell? ⟨SB,0,none⟩=some (.pointer (some ⟨IB,0,none⟩))):=hid fun W' g=>⟨(g.cell (p:=⟨B4,0,none⟩) z4).trans h4,(g.cell (p:=⟨B5,0,none⟩) z5).trans h5,(g.cell (p:=⟨SB,0,none⟩) hz).trans s0⟩;have hB0:Bl w w:=Below.refl _ _;clear hi hku s0 s1 s2 h4 h5 h0 z4 z5 hz;go_enter func226,ntmps226;go_upto_region 1 with fail;refine wp_region_any (by kernel_rfl) ?_;change wpAny _ _ _ _ _ _ _ (World.drew _);refine hld HSS.o (hB0.drew) (fun hHeld=>?_);refine tk 0 rfl ?_;refine tk 1 rfl ?_;refine tk 2 rfl ?_;refine tk 3 rfl ?_;refine tk 4 rfl ?_;refine tk 5 rfl ?_;refine rd1 6 (fun K hK=>?_);(go_simp;(with_reducible refine (HC.o _ hB0.drew).mono ?_);rintro e w9 ⟨rfl,g9⟩;have hB9:Bl w w9:=zi hB0.drew g9;go_wp2_with fail);refine nx hK ?_ (fun hH1=>?_);(first | exact HSS.o _ hB0.drew | exact HSS.o _ (by assumption));clear hK K hHeld;refine tk 7 rfl ?_;refine tk 8 rfl ?_;refine dn ?_;rotate_left
 all_goals
   go_wp2_with fail;go_ret;exact ⟨rfl,hB9⟩
theorem entX_no {m:MdlD} {r e:Int} (h:r<0\/inM m e r=false):entX m r e=[]:=by
 unfold entX
 split
 . rfl
 . unfold entM
   rw [(h.resolve_left (by omega)),if_neg (by decide)]
theorem entX_yes {m:MdlD} {r e:Int} (h:¬ r<0) (hi:inM m e r=true):entX m r e=((chainM m e).filter fun x=>!(fun v=>!inM m v r) x) ++ (if stands m e then [e] else []):=by
 unfold entX;rw [if_neg h];unfold entM;rw [hi,if_pos rfl];simp only [Bool.not_not]
theorem zbB {m:MdlD} (h0:riM m=(0,0,0)) (v:Int):(chainM m v).length<=64:=by
 cases hv:hasV m v with
 | false=>unfold chainM;rw [hv];simp
 | true =>
  obtain ⟨k,rfl,hk⟩:=zN hv;rw [jH h0 hk];exact zO h0 hk
theorem jm {B:Nat} {m:MdlD} {SB:Nat} {w:World} (h:SetAt B m SB w) (h0:riM m=(0,0,0)) (r e:Int) :
   Calls prog 141 #[.pointer (some ⟨SB,0,none⟩),.int .i64 r,.int .i64 e] w (RowP (entX m r e) w):=by
 obtain ⟨iI,hiI,zI0,zI1,zI2⟩:=info_parts zS;unfold RowP;have HB1:Hid (Bl w ((w.alloc (.cells #[.pointer (some ⟨SB,0,none⟩)] 77)).alloc (.cells #[.int .i64 r] 3))):=hid (zq w _ _);obtain ⟨t4,t5,_,tz⟩:=yI w (.pointer (some ⟨SB,0,none⟩)) (.int .i64 r) 77 3;have HA:=hid (fun wx (g:Bl w wx)=>h.grown g);have HX0:=hid (fun hh=>entX_no (m:=m) (r:=r) (e:=e) hh);have HX1:=hid (fun h1 h2=>entX_yes (m:=m) (r:=r) (e:=e) h1 h2);have HCl:=hid (zbB h0 e);have HFl:=hid (List.length_filter_le (fun x=>!(fun v=>!inM m v r) x) (chainM m e));have CH:=hid (fun wx IB (hi:IdxAt B m IB wx)=>ze3 hi e h0);have IN:=hid (fun wx IB (hi:IdxAt B m IB wx)=>zdx hi e r h0);have E1:=hid (fun wx (hs:SetAt B m SB wx) (x:Int) B4 B5 h4 h5=>zca hs h0 x r B4 B5 h4 h5);have IS:=hid (fun wx (hs:SetAt B m SB wx)=>(qo (hs.grown (zg wx (.cells #[.int .u8 1,.int .u8 2] 5))) e (.slice (some ⟨wx.heap.size,0,none⟩) 2 2) [1,2] (RowU.fresh wx [1,2] _ rfl 2 rfl _ rfl) (by decide)).mono (fun e1 w' q=>(show e1=.returned (.bool (stands m e))/\Bl wx w' from ⟨by rw [<- st_kd];exact q.1,zl q.2⟩)));obtain ⟨IB,kv,hi,s0,s1,s2,hku,hz⟩:=h;have HI:=hid (fun wx (g:Bl w wx)=>hi.grown g);generalize entX m r e=X at *;generalize inM m e r=ib at *;generalize stands m e=sb at *;clear hi hku s1 s2 h0;go_enter func141,ntmps141;go_upto_region 1 with fail;have s0':=(HB1.o.cell (p:=⟨SB,0,none⟩) hz).trans s0;have hz':SB<((w.alloc (.cells #[.pointer (some ⟨SB,0,none⟩)] 77)).alloc (.cells #[.int .i64 r] 3)).heap.size:=by omega
 generalize (w.alloc (.cells #[.pointer (some ⟨SB,0,none⟩)] 77)).alloc (.cells #[.int .i64 r] 3)=W1 at *;have hB0:Bl W1 W1:=Below.refl _ _
 by_cases hr:r<0
 . have HX:=hid (HX0.o (.inl hr))
   have hd:decide (r<0)=true:=decide_eq_true hr;clear HX0 HX1
   go_quiet (fail)
   go_wp2_with fail;go_ret;rw [HX.o];exact ⟨_,rfl,World.ownsRow_nil _ _ _ _,below_drewN HB1.o _⟩
 . have hd:decide (r<0)=false:=decide_eq_false hr
   have HSS:Hid (∀ W',Bl W1 W'->W'.cell? ⟨w.heap.size,0,none⟩=some (.pointer (some ⟨SB,0,none⟩))/\W'.cell? ⟨w.heap.size+1,0,none⟩=some (.int .i64 r)/\W'.cell? ⟨SB,0,none⟩=some (.pointer (some ⟨IB,0,none⟩))):=hid fun W' g=>⟨(g.cell (p:=⟨w.heap.size,0,none⟩) (by simp only;omega)).trans t4,(g.cell (p:=⟨w.heap.size+1,0,none⟩) (by simp only;omega)).trans t5,(g.cell (p:=⟨SB,0,none⟩) hz').trans s0'⟩
   have INx:=hid (IN.o W1.drew IB (HI.o _ HB1.o.drew));have HNr:=hid hr;clear IN t4 t5 s0 s0' hr;refine wp_region_any (by kernel_rfl) ?_;change wpAny _ _ _ _ _ _ _ (World.drew _);refine hld HSS.o (hB0.drew) (fun hHeld=>?_);refine tk 0 rfl ?_;refine tk 1 rfl ?_;refine tk 2 rfl ?_;refine tk 3 rfl ?_;refine tk 4 rfl ?_;refine tk 5 rfl ?_;refine tk 6 rfl ?_;refine tk 7 rfl ?_;refine tk 8 rfl ?_;refine tk 9 rfl ?_;refine tk 10 rfl ?_;refine tk 11 rfl ?_;refine tk 12 rfl ?_;refine rd1 13 (fun K hK=>?_);(go_simp;(with_reducible refine (INx.o).mono ?_);rintro e1 w9 ⟨rfl,g9⟩;have hB9:Bl W1 w9:=zi hB0.drew g9;go_wp2_with fail);refine nx hK ?_ (fun hH1=>?_);(first | exact HSS.o _ hB0.drew | exact HSS.o _ (by assumption));clear hK K hHeld;refine tk 14 rfl ?_;refine tk 15 rfl ?_;refine dn ?_;rotate_left
   all_goals
     have HB9:Hid (Bl w w9):=hid (HB1.o.trans (hB9.mono HB1.o.size));obtain ⟨q4,q5,q0⟩:=HSS.o _ hB9
     cases ib
     . have HX:=hid (HX0.o (.inr rfl))
       clear HX0 HX1;go_wp2_with fail;go_ret;rw [HX.o];exact ⟨_,rfl,World.ownsRow_nil _ _ _ _,HB9.o⟩
     . have HX:=hid (HX1.o HNr.o rfl)
       have CHx:=hid (CH.o w9 IB (HI.o _ HB9.o));have hz9:=hB9.size;clear HX0 HX1 CH;go_wp2_with fail;(with_reducible refine (CHx.o).mono ?_);rintro e1 w10 ⟨v10,rfl,o10,g10⟩;have hB10:Bl W1 w10:=zi hB9 g10;have HB10:Hid (Bl w w10):=hid (HB1.o.trans (hB10.mono HB1.o.size));have THx:=hid (zdS (fun v=>!inM m v r) (chainM m e) v10 w.heap.size (w.heap.size+1) w9.heap.size w10 o10 g10.size (by have:=HCl.o;omega) (fun wx gx x _=>E1.o wx (HA.o wx (HB9.o.trans ((g10.trans gx).mono HB9.o.size))) x w.heap.size (w.heap.size+1) (HSS.o _ (hB9.trans ((g10.trans gx).mono hB9.size))).1 (HSS.o _ (hB9.trans ((g10.trans gx).mono hB9.size))).2.1));unfold DelP at THx;generalize (chainM m e).filter (fun x=>!(fun v=>!inM m v r) x)=F at *;have hHl:F.length<=64:=by have:=HCl.o;have:=HFl.o;omega
       have HG10:=hid g10;have hz10:w.heap.size<=w10.heap.size:=HB10.o.size;clear o10 g10 CHx E1 q4 q5 q0 hB10 HB10;go_wp2_with fail;(with_reducible refine (THx.o).mono ?_);rintro e1 w11 ⟨v11,rfl,o11,g11⟩;have hB11:Bl W1 w11:=hB9.trans ((HG10.o.trans g11).mono hB9.size);have HB11:Hid (Bl w w11):=hid (HB1.o.trans (hB11.mono HB1.o.size));have HO11:=hid o11;obtain ⟨q4,q5,q0⟩:=HSS.o _ hB11;have ISx:=hid (IS.o w11 (HA.o w11 HB11.o));have hz11:w9.heap.size<=w11.heap.size:=Nat.le_trans HG10.o.size g11.size;have hz0:w.heap.size<=w9.heap.size:=HB9.o.size;clear o11 g11 THx HG10 IS hB9 HB9;go_wp2_with fail;(with_reducible refine (ISx.o).mono ?_);rintro e1 w12 ⟨rfl,g12⟩;have HO12:=hid (zu HO11.o g12);have HB12:Hid (Bl w w12):=hid (HB11.o.trans (g12.mono HB11.o.size));have hz12:w9.heap.size<=w12.heap.size:=Nat.le_trans hz11 g12.size;clear g12 HO11 HB11 ISx q4 q5 q0 hB11
       cases sb
       . rw [if_neg (by decide),List.append_nil] at HX
         go_wp2_with fail;go_ret;rw [HX.o];exact ⟨_,rfl,HO12.o.mono hz0,HB12.o⟩
       . rw [if_pos rfl] at HX
         go_wp2_with (at_builtin;refine zn _ rfl _ _ 31 rfl 3 w9.heap.size iI (.int .i64 0) underlying31 hiI zI0 zI1 zI2 rfl _ F rfl (HO12.o.alloc _) _ [e] rfl (row1 _ _ _) (by simp;omega) (by simp;omega) ?_;intro v13 w13 hown13 hgrow13 hnxt13);have HO13:=hid hown13;have HB13:Hid (Bl w w13):=hid (((HB12.o.alloc HB12.o.size _)).grown hgrow13 (by simp;omega) (fun q hq=>by have:=(HO12.o.lt q hq).1;omega));clear hown13 hgrow13 hnxt13;go_ret;rw [HX.o];exact ⟨_,rfl,HO13.o.mono hz0,HB13.o⟩
section
variable (a1 a2:Option Addr) (n1 n2 c1 c2:Nat) (w:World)
theorem qN:Calls prog 137 #[.pointer none,.agg #[.slice a1 n1 c1,.slice a2 n2 c2]] w fun e w'=>e=.returned (.bool false)/\Bl w w':=by
 go_enter func137,ntmps137;go_wp2_with fail;go_ret;exact ⟨rfl,zg w _⟩
theorem zbC (v:Int):Calls prog 220 #[.pointer none,.agg #[.slice a1 n1 c1,.slice a2 n2 c2],.int .i64 v] w fun e w'=>e=.returned (.int .i64 1)/\Bl w w':=by
 go_enter func220,ntmps220;go_wp2_with fail;go_ret;exact ⟨rfl,zg w _⟩
theorem zdU (lv:Value):Calls prog 138 #[.pointer none,lv] w fun e w'=>e=.returned (.int .i64 (-1))/\Bl w w':=by
 go_enter func138,ntmps138;go_wp2_with fail;go_ret;exact ⟨rfl,Below.refl _ _⟩
theorem zcX (r:Int):Calls prog 130 #[.pointer none,.agg #[.slice a1 n1 c1,.slice a2 n2 c2],.int .i64 r] w fun e w'=>e=.returned (.slice none 0 0)/\Bl w w':=by
 have HF:=hid (fun wx=>qN a1 a2 n1 n2 c1 c2 wx);have HB:=hid (zg w (.cells #[.slice a1 n1 c1,.slice a2 n2 c2] 74));go_enter func130,ntmps130;go_wp2_with fail;(with_reducible refine (HF.o _).mono ?_);rintro e w2 ⟨rfl,g2⟩;go_wp2_with fail;go_ret;exact ⟨rfl,zi HB.o g2⟩
theorem za8 (r e:Int):Calls prog 141 #[.pointer none,.int .i64 r,.int .i64 e] w fun e w'=>e=.returned (.slice none 0 0)/\Bl w w':=by
 have HB:=hid (zq w (.cells #[.pointer none] 77) (.cells #[.int .i64 r] 3));obtain ⟨t4,t5,_,tz⟩:=yI w (.pointer none) (.int .i64 r) 77 3;go_enter func141,ntmps141;go_upto_region 1 with fail;generalize (w.alloc (.cells #[.pointer none] 77)).alloc (.cells #[.int .i64 r] 3)=W1 at *
 go_quiet (fail)
 go_wp2_with fail;go_ret;exact ⟨rfl,below_drewN HB.o _⟩
theorem zcb:Calls prog 143 #[.pointer none,.agg #[.slice a1 n1 c1,.slice a2 n2 c2]] w fun e w'=>e=.returned (.slice none 0 0)/\Bl w w':=by
 have HF:=hid (fun wx=>qN a1 a2 n1 n2 c1 c2 wx);have HB:=hid (zg w (.cells #[.slice a1 n1 c1,.slice a2 n2 c2] 74));go_enter func143,ntmps143;go_wp2_with fail;(with_reducible refine (HF.o _).mono ?_);rintro e w2 ⟨rfl,g2⟩;go_wp2_with fail;go_ret;exact ⟨rfl,zi HB.o g2⟩
theorem zax (v:Int):Calls prog 145 #[.pointer none,.agg #[.slice a1 n1 c1,.slice a2 n2 c2],.int .i64 v] w fun e w'=>e=.returned (.bool false)/\Bl w w':=by
 have HF:=hid (fun wx=>qN a1 a2 n1 n2 c1 c2 wx);have HB:=hid (zq w (.cells #[.pointer none] 77) (.cells #[.slice a1 n1 c1,.slice a2 n2 c2] 74));have t0:((w.alloc (.cells #[.pointer none] 77)).alloc (.cells #[.slice a1 n1 c1,.slice a2 n2 c2] 74)).cell? ⟨w.heap.size,0,none⟩=some (.pointer none):=((zg (w.alloc (.cells #[.pointer none] 77)) (.cells #[.slice a1 n1 c1,.slice a2 n2 c2] 74)).cell (p:=⟨w.heap.size,0,none⟩) (by simp)).trans (by simp);go_enter func145,ntmps145;go_wp2_with fail;(with_reducible refine (HF.o _).mono ?_);rintro e w2 ⟨rfl,g2⟩;go_wp2_with fail;go_ret;exact ⟨rfl,zi HB.o g2⟩
theorem zcY:Calls prog 54 #[.pointer none] w fun e w'=>e=.returned (.agg #[.slice none 0 0,.slice none 0 0])/\Bl w w':=by
 have HB:=hid (zg w (.cells #[.slice none 0 0,.slice none 0 0] 74));have e1:=World.alloc_heap_new w (.cells #[.slice none 0 0,.slice none 0 0] 74);have q0:=zh e1 0;have q1:=zh e1 1;have q2:=zX e1 0;have q3:=zX e1 1;simp only [List.getElem?_toArray,List.getElem?_cons_zero,List.getElem?_cons_succ] at q0 q1;have hz:(w.alloc (.cells #[.slice none 0 0,.slice none 0 0] 74)).heap.size=w.heap.size+1:=by simp
 clear e1;go_enter func54,ntmps54;go_upto_region 1 with fail;generalize w.alloc (.cells #[.slice none 0 0,.slice none 0 0] 74)=W1 at *;go_wp2_with fail;refine bodyPost_ret (v:=.agg #[.slice none 0 0,.slice none 0 0]) (by simp [results,results54,go_sem,q0,q1]) rfl ⟨rfl,(HB.o.setCell (p:=⟨w.heap.size,0,none⟩) (Nat.le_refl _) _).setCell (p:=⟨w.heap.size,1,none⟩) (Nat.le_refl _) _⟩
theorem zcZ (v:Int):Calls prog 147 #[.pointer none,.agg #[.slice a1 n1 c1,.slice a2 n2 c2],.int .i64 v] w fun e w'=>e=.returned (.tuple #[.agg #[.slice none 0 0,.slice none 0 0],.int .i64 1])/\Bl w w':=by
 have HF:=hid (fun wx=>zbC a1 a2 n1 n2 c1 c2 wx v);have HB:=hid (zq w (.cells #[.slice a1 n1 c1,.slice a2 n2 c2] 74) (.cells #[.slice none 0 0,.slice none 0 0] 74));have e1:=World.alloc_heap_new (w.alloc (.cells #[.slice a1 n1 c1,.slice a2 n2 c2] 74)) (.cells #[.slice none 0 0,.slice none 0 0] 74);rw [World.size_alloc] at e1
 have HK:Hid (∀ wx,Below ((w.alloc (.cells #[.slice a1 n1 c1,.slice a2 n2 c2] 74)).alloc (.cells #[.slice none 0 0,.slice none 0 0] 74)).heap.size ((w.alloc (.cells #[.slice a1 n1 c1,.slice a2 n2 c2] 74)).alloc (.cells #[.slice none 0 0,.slice none 0 0] 74)) wx->wx.cell? ⟨w.heap.size+1,0,none⟩=some (.slice none 0 0)/\wx.cell? ⟨w.heap.size+1,1,none⟩=some (.slice none 0 0)/\wx.frozen? ⟨w.heap.size+1,0,none⟩=false/\wx.frozen? ⟨w.heap.size+1,1,none⟩=false):=hid fun wx g=>by
   have f1:=(g.block (w.heap.size+1) (by simp)).trans e1;exact ⟨zh f1 0,zh f1 1,zX f1 0,zX f1 1⟩
 have d0:((w.alloc (.cells #[.slice a1 n1 c1,.slice a2 n2 c2] 74)).alloc (.cells #[.slice none 0 0,.slice none 0 0] 74)).cell? ⟨w.heap.size,0,none⟩=some (.slice a1 n1 c1):=((zg (w.alloc (.cells #[.slice a1 n1 c1,.slice a2 n2 c2] 74)) (.cells #[.slice none 0 0,.slice none 0 0] 74)).cell (p:=⟨w.heap.size,0,none⟩) (by simp)).trans (by simp);have d1:((w.alloc (.cells #[.slice a1 n1 c1,.slice a2 n2 c2] 74)).alloc (.cells #[.slice none 0 0,.slice none 0 0] 74)).cell? ⟨w.heap.size,1,none⟩=some (.slice a2 n2 c2):=((zg (w.alloc (.cells #[.slice a1 n1 c1,.slice a2 n2 c2] 74)) (.cells #[.slice none 0 0,.slice none 0 0] 74)).cell (p:=⟨w.heap.size,1,none⟩) (by simp)).trans (by simp);clear e1;go_enter func147,ntmps147;go_upto_region 1 with fail;generalize (w.alloc (.cells #[.slice a1 n1 c1,.slice a2 n2 c2] 74)).alloc (.cells #[.slice none 0 0,.slice none 0 0] 74)=W1 at *;go_wp2_with fail;(with_reducible refine (HF.o _).mono ?_);rintro e w2 ⟨rfl,g2⟩;have HB2:=hid (HB.o.trans (g2.mono HB.o.size));obtain ⟨t0,t1,t2,t3⟩:=HK.o w2 g2;clear d0 d1 g2;go_wp2_with fail;refine bodyPost_ret (v:=.tuple #[.agg #[.slice none 0 0,.slice none 0 0],.int .i64 1]) (by simp [results,results147,go_sem,t0,t1]) rfl ⟨rfl,(HB2.o.setCell (p:=⟨w.heap.size+1,0,none⟩) (by simp) _).setCell (p:=⟨w.heap.size+1,1,none⟩) (by simp) _⟩
theorem zc0 (v:Int):Calls prog 131 #[.pointer none,.agg #[.slice a1 n1 c1,.slice a2 n2 c2],.int .i64 v] w fun e w'=>e=.returned (.tuple #[.agg #[.slice none 0 0,.slice none 0 0],.int .i64 1])/\Bl w w':=by
 have HF:=hid (fun wx=>zbC a1 a2 n1 n2 c1 c2 wx v);have HB:=hid (zq w (.cells #[.slice a1 n1 c1,.slice a2 n2 c2] 74) (.cells #[.slice none 0 0,.slice none 0 0] 74));have e1:=World.alloc_heap_new (w.alloc (.cells #[.slice a1 n1 c1,.slice a2 n2 c2] 74)) (.cells #[.slice none 0 0,.slice none 0 0] 74);rw [World.size_alloc] at e1
 have HK:Hid (∀ wx,Below ((w.alloc (.cells #[.slice a1 n1 c1,.slice a2 n2 c2] 74)).alloc (.cells #[.slice none 0 0,.slice none 0 0] 74)).heap.size ((w.alloc (.cells #[.slice a1 n1 c1,.slice a2 n2 c2] 74)).alloc (.cells #[.slice none 0 0,.slice none 0 0] 74)) wx->wx.cell? ⟨w.heap.size+1,0,none⟩=some (.slice none 0 0)/\wx.cell? ⟨w.heap.size+1,1,none⟩=some (.slice none 0 0)/\wx.frozen? ⟨w.heap.size+1,0,none⟩=false/\wx.frozen? ⟨w.heap.size+1,1,none⟩=false):=hid fun wx g=>by
   have f1:=(g.block (w.heap.size+1) (by simp)).trans e1;exact ⟨zh f1 0,zh f1 1,zX f1 0,zX f1 1⟩
 have d0:((w.alloc (.cells #[.slice a1 n1 c1,.slice a2 n2 c2] 74)).alloc (.cells #[.slice none 0 0,.slice none 0 0] 74)).cell? ⟨w.heap.size,0,none⟩=some (.slice a1 n1 c1):=((zg (w.alloc (.cells #[.slice a1 n1 c1,.slice a2 n2 c2] 74)) (.cells #[.slice none 0 0,.slice none 0 0] 74)).cell (p:=⟨w.heap.size,0,none⟩) (by simp)).trans (by simp);have d1:((w.alloc (.cells #[.slice a1 n1 c1,.slice a2 n2 c2] 74)).alloc (.cells #[.slice none 0 0,.slice none 0 0] 74)).cell? ⟨w.heap.size,1,none⟩=some (.slice a2 n2 c2):=((zg (w.alloc (.cells #[.slice a1 n1 c1,.slice a2 n2 c2] 74)) (.cells #[.slice none 0 0,.slice none 0 0] 74)).cell (p:=⟨w.heap.size,1,none⟩) (by simp)).trans (by simp);clear e1;go_enter func131,ntmps131;go_upto_region 1 with fail;generalize (w.alloc (.cells #[.slice a1 n1 c1,.slice a2 n2 c2] 74)).alloc (.cells #[.slice none 0 0,.slice none 0 0] 74)=W1 at *;go_wp2_with fail;(with_reducible refine (HF.o _).mono ?_);rintro e w2 ⟨rfl,g2⟩;have HB2:=hid (HB.o.trans (g2.mono HB.o.size));obtain ⟨t0,t1,t2,t3⟩:=HK.o w2 g2;clear d0 d1 g2;go_wp2_with fail;refine bodyPost_ret (v:=.tuple #[.agg #[.slice none 0 0,.slice none 0 0],.int .i64 1]) (by simp [results,results131,go_sem,t0,t1]) rfl ⟨rfl,(HB2.o.setCell (p:=⟨w.heap.size+1,0,none⟩) (by simp) _).setCell (p:=⟨w.heap.size+1,1,none⟩) (by simp) _⟩
end
end Go.Proofs
