/- Walks: history.may, Fits. -/
import Derived.Test.YtiimoclbmaggjaaGreatDoorHRwM
import Derived.Test.YtiimoclbmaggjaaGreatDoorHIxXZ
namespace Go.Proofs
open Go.RowKit Go.Lx Go.Md Go.Shelf Go.BigFrame
set_option linter.unusedVariables false
set_option maxHeartbeats 1000000 in
theorem may_any {Q:Nat→BP} (m:MdlD) (p:Ph) (v r:Int) (w:World) (h:Mod Q w m p) (hm:MdlOk m) :
   Calls Tryz.prog 158 #[mdV m p,.int .i64 v,.int .i64 r] w fun e w'=>e=.returned (.bool (mayM m v r))∧Below w.heap.size w w':=by
 have HB:Hid (∀ o wx,Below (w.alloc o).heap.size (w.alloc o) wx→Below w.heap.size w wx):=fun o wx g=>below_bx1 g
 have hvl:=hm.vers
 cases hv:hasV m v with
 | false =>
  have hp:mayM m v r=(v == -1):=by unfold mayM;rw [hv];rfl
  rw [hp]
  unfold mdV
  unfold hasV at hv
  clear h hm hp
  by_cases h1:0≤v
  · have h2:¬ (v<m.vers.length):=by simp [h1] at hv;omega
    clear hv
    have h3:(v == -1)=false:=by simp only [beq_eq_false_iff_ne,ne_eq];omega
    rw [h3]
    go_enter Tryz.func158,Tryz.ntmps158
    go_wp2
    go_ret
    exact ⟨rfl,below_al1 w _⟩
  · clear hv
    cases h3:(v == -1)
    all_goals
      go_enter Tryz.func158,Tryz.ntmps158
      go_wp2
      go_ret
      exact ⟨rfl,below_al1 w _⟩
 | true =>
  obtain ⟨k,rfl,hk⟩:=hasV_yes hv
  have hp:mayM m k r=(m.vers[k].rg == r && (m.vers[k].kd == 1 || m.vers[k].kd == 2)):=by
    unfold mayM;rw [hv,Int.toNat_natCast,List.getElem?_eq_getElem hk];rfl
  rw [hp]
  obtain ⟨b1,o1,ha1,hb1,hc1⟩:=h.vers.get hk
  obtain ⟨x,hx⟩:∃ x,x=m.vers[k]:=⟨_,rfl⟩
  rw [← hx] at hc1 ⊢
  obtain ⟨dv,hdv,r0,r1,r2,r3,r4,r5,r6,r7⟩:=hc1
  obtain ⟨da,dc,rfl⟩:=hdv.len
  have hcap:=h.vers.cap (by omega)
  unfold mdV
  rw [ha1]
  have h1:(0:Int)≤(k:Int):=by omega
  have h2:(k:Int)<(m.vers.length:Int):=by omega
  clear h hm hp hv hx hdv ha1
  cases d1:(x.rg == r) with
  | false =>
   go_enter Tryz.func158,Tryz.ntmps158
   go_wp2
   go_ret
   exact ⟨rfl,below_al2 w _ _⟩
  | true =>
   cases d2:(x.kd == 1) with
   | true =>
    have e2:((x.kd:Int) == 1)=true:=by simp at d2 ⊢;omega
    go_enter Tryz.func158,Tryz.ntmps158
    go_wp2
    go_ret
    exact ⟨rfl,below_al2 w _ _⟩
   | false =>
    have e2:((x.kd:Int) == 1)=false:=by simp at d2 ⊢;omega
    cases d3:(x.kd == 2) with
    | true =>
     have e3:((x.kd:Int) == 2)=true:=by simp at d3 ⊢;omega
     go_enter Tryz.func158,Tryz.ntmps158
     go_wp2
     go_ret
     exact ⟨rfl,below_al2 w _ _⟩
    | false =>
     have e3:((x.kd:Int) == 2)=false:=by simp at d3 ⊢;omega
     go_enter Tryz.func158,Tryz.ntmps158
     go_wp2
     go_ret
     exact ⟨rfl,below_al2 w _ _⟩
theorem fitRow_all {m:MdlD} {last:List Int} (h:∀ j,j<last.length→mayM m (last.getD j (-1)) j=true):fitRow m last=true:=by
 unfold fitRow;rw [List.all_eq_true];intro j hj;exact h j (List.mem_range.1 hj)
theorem fitRow_no {m:MdlD} {last:List Int} {j:Nat} (hj:j<last.length) (h:mayM m (last.getD j (-1)) j=false):fitRow m last=false:=by
 cases hf:fitRow m last with
 | false=>rfl
 | true=>rw [fit_at hf hj] at h;cases h
set_option maxRecDepth 100000 in
set_option maxHeartbeats 2000000 in
theorem fits_any {Q:Nat→BP} (m:MdlD) (p:Ph) (last:List Int) (lv:Value) (w:World) (h:Mod Q w m p) (hm:MdlOk m) (hT:Tab w) (hr:RowIn w lv last) (hl:last.length≤1000000) :
   Calls Tryz.prog 66 #[mdV m p,lv] w fun e w'=>e=.returned (.bool (fitsM m last))∧Below w.heap.size w w':=by
 have R1:=Lib.hid (fun wx (hb:Below w.heap.size w wx)=>right_any m p wx (h.below hb) (hT.next hb) hm)
 have HM:=Lib.hid (fun wx (hx:Mod (fun _=>OldB w.heap.size) wx m p) (v r:Int)=>may_any m p v r wx hx hm)
 have HR:=Lib.hid (fun (wx:World) (g:Below w.heap.size w wx)=>(hr.below g).len)
 have H0:=Lib.hid (Mb.made h)
 have HMB:Hid (∀ wx,Below (w.alloc (.cells #[.string m.nm,.slice p.a1 m.vars.length p.c1,.slice p.a2 m.evs.length p.c2,.slice p.a3 m.regs.length p.c3,.slice p.a4 m.vers.length p.c4,.slice p.a5 m.trns.length p.c5] 28)).heap.size (w.alloc (.cells #[.string m.nm,.slice p.a1 m.vars.length p.c1,.slice p.a2 m.evs.length p.c2,.slice p.a3 m.regs.length p.c3,.slice p.a4 m.vers.length p.c4,.slice p.a5 m.trns.length p.c5] 28)) wx→Mb m p w.heap.size w wx):=fun wx g=>(Mb.made h).below g
 obtain ⟨a,c,rfl,hc,_⟩:=hr.len
 have hrl:=hm.regs
 have HF:Hid (∀ b,fitsM m last=b↔((riM m).2.2 == 0 && last.length == m.regs.length && fitRow m last)=b):=fun b=>Iff.rfl
 generalize riM m=q at R1 HF
 obtain ⟨rx,ry,rz⟩:=q
 unfold mdV at R1 HM ⊢
 dsimp only at R1 HF
 clear h hm hT hr H0
 by_cases hz:rz=0
 · subst hz
   by_cases hn:last.length=m.regs.length
   · have hd:((last.length:Int) != (m.regs.length:Int))=false:=by simp only [bne_eq_false_iff_eq];omega
     have HL:Hid (∀ b,fitRow m last=b→fitsM m last=b):=fun b hb=>(HF.out b).2 (by rw [hb,hn];simp)
     obtain ⟨n,hn2⟩:∃ n,last.length=n:=⟨_,rfl⟩
     have HN:=Lib.hid hn2
     rw [hn2] at hl hc hd ⊢
     clear hn hn2 HF
     go_enter Tryz.func66,Tryz.ntmps66
     go_wp2_with fail
     refine (R1.out _ (below_al1 w _)).mono ?_
     rintro e w3 ⟨rfl,g3⟩
     have H3:=Lib.hid (HMB.out w3 g3)
     clear g3 HMB R1
     obtain ⟨x0,x1,x2,x3,x4,x5,_⟩:=H3.out.box
     go_wp2_with fail
     clear x0 x1 x2 x3 x4 x5
     go_loopw [28] (fun i wr=>∃ k:Nat,k≤n∧i=.int .i64 k∧Mb m p w.heap.size w wr∧∀ j,j<k→mayM m (last.getD j (-1)) j=true) (fun i _=>n - (intOf i).toNat)
     case atStart=>exact ⟨0,by omega,rfl,H3.out,fun j hj=>by omega⟩
     case round =>
      obtain ⟨wo,rfl⟩:∃ wo:World,wo=wr:=⟨_,rfl⟩
      obtain ⟨k,hk,rfl,hb,hno⟩:=hrel
      have HB:=Lib.hid hb
      have HNo:=Lib.hid hno
      clear hb hno H3
      by_cases hlt:k<n
      · obtain ⟨a',c',e,_,q⟩:=HR.out wo HB.out.bel
        simp only [Value.slice.injEq] at e
        obtain ⟨rfl,_,rfl⟩:=e
        obtain ⟨b1,o1,rfl,_,hc1⟩:=q k (by rw [HN.out];exact hlt)
        have hI:(k:Int)<(n:Int):=by omega
        have hI0:(0:Int)≤(k:Int):=by omega
        have hg:last.getD k (-1)=last[k]'(by rw [HN.out];exact hlt):=by rw [List.getD_eq_getElem?_getD,List.getElem?_eq_getElem (by rw [HN.out];exact hlt)];rfl
        rw [← hg] at hc1
        have HMk:=Lib.hid (HM.out wo HB.out.mod (last.getD k (-1)) k)
        have HS:Hid (∀ b,mayM m (last.getD k (-1)) k=b→(b=true→∀ j,j<k+1→mayM m (last.getD j (-1)) j=true)∧(b=false→fitsM m last=false)):=fun b hb=>⟨fun ht j hj=>by
            by_cases e:j=k
            · subst e;rw [hb,ht]
            · exact HNo.out j (by omega),fun hf=>HL.out false (fitRow_no (by rw [HN.out];exact hlt) (by rw [hb,hf]))⟩
        obtain ⟨y,hy⟩:∃ y,last.getD k (-1)=y:=⟨_,rfl⟩
        rw [hy] at hc1 HMk HS
        clear q hg hy
        obtain ⟨x0,x1,x2,x3,x4,x5,_⟩:=HB.out.box
        cases hd2:mayM m y k with
        | true =>
         have hT:=Lib.hid ((HS.out true hd2).1 rfl)
         rw [hd2] at HMk
         clear HS hd2
         go_wp2_with ((with_reducible refine (HMk.out).mono ?_);rintro e w5 ⟨rfl,g5⟩)
         go_roundw
         case rel=>exact ⟨k+1,by omega,by go_num,HB.out.below g5,hT.out⟩
         case measure=>simp [intOf] <;> omega
        | false =>
         have hF:=Lib.hid ((HS.out false hd2).2 rfl)
         rw [hd2] at HMk
         clear HS hd2
         go_wp2_with ((with_reducible refine (HMk.out).mono ?_);rintro e w5 ⟨rfl,g5⟩)
         go_ret
         exact ⟨by rw [hF.out];rfl,(HB.out.below g5).bel⟩
      · have hE:Hid (fitsM m last=true):=HL.out true (fitRow_all fun j hj=>HNo.out j (by have:=HN.out;omega))
        go_wp2
        go_ret
        exact ⟨by rw [hE.out];rfl,HB.out.bel⟩
   · have hd:((last.length:Int) != (m.regs.length:Int))=true:=by simp only [bne_iff_ne,ne_eq];omega
     have HL:Hid (fitsM m last=false):=(HF.out false).2 (by simp [hn])
     clear HF hn
     go_enter Tryz.func66,Tryz.ntmps66
     go_wp2_with fail
     refine (R1.out _ (below_al1 w _)).mono ?_
     rintro e w3 ⟨rfl,g3⟩
     have H3:=Lib.hid (HMB.out w3 g3)
     clear g3 HMB R1
     obtain ⟨x0,x1,x2,x3,x4,x5,_⟩:=H3.out.box
     go_wp2_with fail
     go_ret
     exact ⟨by rw [HL.out];rfl,H3.out.bel⟩
 · have hz2:((rz:Int) != 0)=true:=by simp only [bne_iff_ne,ne_eq];omega
   have HL:Hid (fitsM m last=false):=(HF.out false).2 (by simp [hz])
   clear HF hz
   go_enter Tryz.func66,Tryz.ntmps66
   go_wp2_with fail
   refine (R1.out _ (below_al1 w _)).mono ?_
   rintro e w3 ⟨rfl,g3⟩
   have H3:=Lib.hid (HMB.out w3 g3)
   clear g3 HMB R1
   go_wp2_with fail
   go_ret
   exact ⟨by rw [HL.out];rfl,H3.out.bel⟩
theorem note1_len (m:MdlD) (l:List Int) (v:Int):(note1 m l v).length=l.length:=by unfold note1;split <;> simp
theorem notes_len (m:MdlD):∀ (vs l:List Int),(vs.foldl (note1 m) l).length=l.length
 | [],l=>rfl
 | v :: vs,l=>by rw [List.foldl_cons,notes_len m vs,note1_len]
theorem rg_stands {m:MdlD} (h0:riM m=(0,0,0)) {k:Nat} (hk:k<m.vers.length) (hs:m.vers[k].kd=1∨m.vers[k].kd=2):∃ r:Nat,m.vers[k].rg=r∧r<m.regs.length:=by
 have:=plain_at h0 hk ⟨by omega,by omega⟩
 exact ⟨m.vers[k].rg.toNat,by omega,by omega⟩
set_option maxRecDepth 100000 in
set_option maxHeartbeats 2000000 in
theorem note_any {Q:Nat→BP} (m:MdlD) (p:Ph) (last left:List Int) (lv ev:Value) (w:World) (h:Mod Q w m p) (hm:MdlOk m) (hT:Tab w) (hr:RowIn w lv last) (hl:last.length≤100000) (hr2:RowIn w ev left) (hl2:left.length≤1000000) :
   Calls Tryz.prog 15 #[lv,mdV m p,ev] w (RowP (noteM m last left) w):=by
 have HFt:=Lib.hid (fun wx (hb:Below w.heap.size w wx)=>fits_any m p last lv wx (h.below hb) hm (hT.next hb) (hr.below hb) (by omega))
 have HCl:=Lib.hid (fun (hne:last≠[]) (wx:World) (g:Below w.heap.size w wx)=>cloneIn (hr.below g) hl (.inl hne))
 have HE:=Lib.hid (fun (wx:World) (g:Below w.heap.size w wx)=>(hr2.below g).len)
 have HMB:Hid (∀ wx,Below (w.alloc (.cells #[.string m.nm,.slice p.a1 m.vars.length p.c1,.slice p.a2 m.evs.length p.c2,.slice p.a3 m.regs.length p.c3,.slice p.a4 m.vers.length p.c4,.slice p.a5 m.trns.length p.c5] 28)).heap.size (w.alloc (.cells #[.string m.nm,.slice p.a1 m.vars.length p.c1,.slice p.a2 m.evs.length p.c2,.slice p.a3 m.regs.length p.c3,.slice p.a4 m.vers.length p.c4,.slice p.a5 m.trns.length p.c5] 28)) wx→Mb m p w.heap.size w wx):=fun wx g=>(Mb.made h).below g
 have H0:=Lib.hid (HMB.out _ (Below.refl _ _))
 obtain ⟨a2,c2,rfl,hc2,_⟩:=hr2.len
 have hvl:=hm.vers
 have HP:Hid (∀ b,fitsM m last=b→(b=true→noteM m last left=left.foldl (note1 m) last∧riM m=(0,0,0)∧last.length=m.regs.length)∧(b=false→noteM m last left=[])):=fun b hb=>⟨fun ht=>by
     rw [ht] at hb
     refine ⟨by unfold noteM;rw [if_pos hb],?_⟩
     unfold fitsM at hb
     simp only [Bool.and_eq_true,beq_iff_eq] at hb
     exact ⟨riM_ok hb.1.1,hb.1.2⟩,fun hf=>by rw [hf] at hb;unfold noteM;rw [hb];rfl⟩
 unfold mdV at HFt ⊢
 clear h hm hT hr hr2
 cases hd:fitsM m last with
 | false =>
  have hp:=(HP.out false hd).2 rfl
  rw [hp]
  rw [hd] at HFt
  clear HP hd hp
  go_enter Tryz.func15,Tryz.ntmps15
  go_wp2_with ((with_reducible refine (HFt.out _ (below_al1 w _)).mono ?_);rintro e w3 ⟨rfl,g3⟩)
  go_ret
  exact ⟨_,rfl,World.ownsRow_nil _ _ _ _,below_bx1 g3⟩
 | true =>
  obtain ⟨hp,h0,hll⟩:=(HP.out true hd).1 rfl
  rw [hp]
  rw [hd] at HFt
  have H0r:=Lib.hid h0
  have HNe:Hid (last≠[]):=Lib.hid (fun e=>by rw [e] at hll;have:=regs_pos h0;simp at hll;omega)
  clear HP hd hp h0
  obtain ⟨n2,hn2⟩:∃ n,left.length=n:=⟨_,rfl⟩
  have HN2:=Lib.hid hn2
  rw [hn2] at hl2 hc2 ⊢
  clear hn2
  go_enter Tryz.func15,Tryz.ntmps15
  go_wp2_with fail
  refine (HFt.out _ (below_al1 w _)).mono ?_
  rintro e w3 ⟨rfl,g3⟩
  have H3:=Lib.hid (HMB.out w3 g3)
  clear g3 HMB H0 HFt
  go_wp2_with fail
  refine (HCl.out HNe.out _ H3.out.bel).mono ?_
  rintro e w4 ⟨v4,rfl,o4,g4⟩
  have H4:=Lib.hid (H3.out.below g4)
  obtain ⟨a4,c4,rfl⟩:=ownsRow_slice o4
  have O4:=Lib.hid (o4.mono (Nat.succ_le_of_lt H3.out.box.sl))
  clear o4 g4 H3 HCl
  have HLL:=Lib.hid hll
  obtain ⟨n1,hn1⟩:∃ n,last.length=n:=⟨_,rfl⟩
  have HN1:=Lib.hid hn1
  have O5:Hid (w4.ownsRow (w.heap.size+1) 3 1 (.slice a4 n1 c4) n1 (nums ((left.take 0).foldl (note1 m) last))):=by
    have:=O4.out;rw [hn1] at this;rw [List.take_zero];exact this
  rw [hn1]
  clear hn1 hll O4
  go_wp2_with fail
  go_loopw [18] (fun i wr=>∃ k:Nat,k≤n2∧i=.int .i64 k∧Mb m p w.heap.size w wr∧wr.ownsRow (w.heap.size+1) 3 1 (.slice a4 n1 c4) n1 (nums ((left.take k).foldl (note1 m) last))) (fun i _=>n2 - (intOf i).toNat)
  case atStart=>exact ⟨0,by omega,rfl,H4.out,O5.out⟩
  case round =>
   obtain ⟨wo,rfl⟩:∃ wo:World,wo=wr:=⟨_,rfl⟩
   obtain ⟨k,hk,rfl,hb,ho⟩:=hrel
   have HB:=Lib.hid hb
   have HO:=Lib.hid ho
   clear hb ho H4 O5
   by_cases hlt:k<n2
   · obtain ⟨a',c',e,_,q⟩:=HE.out wo HB.out.bel
     simp only [Value.slice.injEq] at e
     obtain ⟨rfl,_,rfl⟩:=e
     have hkl:k<left.length:=by rw [HN2.out];exact hlt
     obtain ⟨b1,o1,rfl,_,hc1⟩:=q k hkl
     have hI:(k:Int)<(n2:Int):=by omega
     have hI0:(0:Int)≤(k:Int):=by omega
     have HS:Hid ((left.take (k+1)).foldl (note1 m) last=note1 m ((left.take k).foldl (note1 m) last) left[k]):=by
       rw [List.take_succ_eq_append_getElem hkl,List.foldl_append];rfl
     obtain ⟨y,hy⟩:∃ y,left[k]=y:=⟨_,rfl⟩
     rw [hy] at hc1 HS
     clear q hy
     obtain ⟨x0,x1,x2,x3,x4,x5,_⟩:=HB.out.box
     cases hv:hasV m y with
     | false =>
      have hN:Hid ((left.take (k+1)).foldl (note1 m) last=(left.take k).foldl (note1 m) last):=Lib.hid (HS.out.trans (by unfold note1 stands;rw [hv];rfl))
      unfold hasV at hv
      by_cases h1:0≤y
      · have h2:¬ (y<m.vers.length):=by simp [h1] at hv;omega
        clear hv HS
        go_wp2_with fail
        go_roundw
        case rel=>exact ⟨k+1,by omega,by go_num,HB.out,by rw [hN.out];exact HO.out⟩
        case measure=>simp [intOf] <;> omega
      · clear hv HS
        go_wp2_with fail
        go_roundw
        case rel=>exact ⟨k+1,by omega,by go_num,HB.out,by rw [hN.out];exact HO.out⟩
        case measure=>simp [intOf] <;> omega
     | true =>
      obtain ⟨v,rfl,hvk⟩:=hasV_yes hv
      obtain ⟨b2,o2,ha2,hb2,hc2'⟩:=HB.out.mod.vers.get hvk
      have hcap2:=HB.out.mod.vers.cap (by omega)
      rw [ha2] at x4
      have HSt:Hid (∀ b,(m.vers[v].kd == 1 || m.vers[v].kd == 2)=b→stands m v=b):=fun b hb=>by
        unfold stands;rw [hv,Int.toNat_natCast,List.getElem?_eq_getElem hvk];exact hb
      have HRg:Hid ((m.vers[v].kd=1∨m.vers[v].kd=2)→∃ r:Nat,m.vers[v].rg=r∧r<n1∧rgA m v=r):=fun hs=>by
        obtain ⟨r,h1,h2⟩:=rg_stands H0r.out hvk hs
        exact ⟨r,h1,by have:=HN1.out;have:=HLL.out;omega,by unfold rgA;rw [Int.toNat_natCast,List.getElem?_eq_getElem hvk];exact h1⟩
      obtain ⟨x,hx⟩:∃ x,x=m.vers[v]:=⟨_,rfl⟩
      rw [← hx] at hc2' HSt HRg
      obtain ⟨dv,hdv,r0,r1,r2,r3,r4,r5,r6,r7⟩:=hc2'
      obtain ⟨da,dc,rfl⟩:=hdv.len
      have h1:(0:Int)≤(v:Int):=by omega
      have h2:(v:Int)<(m.vers.length:Int):=by omega
      clear hx hdv ha2 hv
      have hYes:(x.kd=1∨x.kd=2)→∃ r g:Nat,a4=some ⟨g,0,none⟩∧x.rg=r∧r<n1∧n1≤c4∧(∃ u,wo.cell? ⟨g,r,none⟩=some u)∧wo.frozen? ⟨g,r,none⟩=false∧g<wo.heap.size ∧
          ∀ O,Mb m p w.heap.size w ((wo.setCell ⟨g,r,none⟩ (.int .i64 v)).alloc O)∧((wo.setCell ⟨g,r,none⟩ (.int .i64 v)).alloc O).ownsRow (w.heap.size+1) 3 1 (.slice a4 n1 c4) n1 (nums ((left.take (k+1)).foldl (note1 m) last)):=by
        intro hs
        obtain ⟨r,e1,e2,e3⟩:=HRg.out hs
        obtain ⟨g,c,e⟩:=ownsRow_pos HO.out (by omega)
        simp only [Value.slice.injEq,true_and] at e
        obtain ⟨rfl,rfl⟩:=e
        have hlt:=HO.out.lt g rfl
        have hcap:n1≤c4:=by
          rcases HO.out.2 with ⟨e,_⟩ | ⟨g',c',_,e,_,_,hc,_⟩
          · cases e
          · simp only [Value.slice.injEq] at e;omega
        obtain ⟨u,hu⟩:∃ u,(nums ((left.take k).foldl (note1 m) last))[r]? = some u:=⟨_,List.getElem?_eq_getElem (by rw [HO.out.1];omega)⟩
        refine ⟨r,g,rfl,e1,e2,hcap,⟨u,(HO.out.cellAt r (by omega)).trans hu⟩,HO.out.frozenAt r,hlt.2,fun O=>⟨?_,?_⟩⟩
        · exact (HB.out.set (by omega) (Nat.le_refl _) _).below (below_al1 _ O)
        · have h1:=((HO.out.stored r (.int .i64 v)).1).alloc O
          have e4:nums ((left.take (k+1)).foldl (note1 m) last)=(nums ((left.take k).foldl (note1 m) last)).set r (.int .i64 v):=by
            rw [HS.out]
            unfold note1
            rw [if_pos (HSt.out true (by rcases hs with e | e <;> simp [e])),e3]
            simp [nums,List.map_set]
          rw [e4];exact h1
      have HY:=Lib.hid hYes
      have HNoS:Hid (¬ (x.kd=1∨x.kd=2)→(left.take (k+1)).foldl (note1 m) last=(left.take k).foldl (note1 m) last):=fun hs=>HS.out.trans (by
        unfold note1
        rw [HSt.out false (by simpa using hs)];rfl)
      clear hYes HS HSt HRg
      by_cases hs:x.kd=1∨x.kd=2
      · obtain ⟨r,g,rfl,e1,e2,hcap,⟨u,hu⟩,hf,hgl,hF⟩:=HY.out hs
        have HF:=Lib.hid hF
        rw [e1] at r2
        have hr0:(0:Int)≤(r:Int):=by omega
        have hr1:(r:Int)<(n1:Int):=by omega
        have hu1:=fun O:Obj=>Lib.cell?_alloc_some O hu
        have hf1:=fun O:Obj=>((below_al1 wo O).frozen (p:=⟨g,r,none⟩) hgl).trans hf
        clear hF HY HNoS e1
        cases d2:(x.kd == 1) with
        | true =>
         have e2:((x.kd:Int) == 1)=true:=by simp at d2 ⊢;omega
         clear hs d2
         go_wp2_with fail
         go_roundw
         case rel=>exact ⟨k+1,by omega,by go_num,(HF.out _).1,(HF.out _).2⟩
         case measure=>simp [intOf] <;> omega
        | false =>
         have e2:((x.kd:Int) == 1)=false:=by simp at d2 ⊢;omega
         have e3:((x.kd:Int) == 2)=true:=by simp at d2 ⊢;omega
         clear hs d2
         go_wp2_with fail
         go_roundw
         case rel=>exact ⟨k+1,by omega,by go_num,(HF.out _).1,(HF.out _).2⟩
         case measure=>simp [intOf] <;> omega
      · have hN:=Lib.hid (HNoS.out hs)
        have e2:((x.kd:Int) == 1)=false:=by simp;omega
        have e3:((x.kd:Int) == 2)=false:=by simp;omega
        have HAl:Hid (∀ O,Mb m p w.heap.size w (wo.alloc O)∧(wo.alloc O).ownsRow (w.heap.size+1) 3 1 (.slice a4 n1 c4) n1 (nums ((left.take (k+1)).foldl (note1 m) last))):=fun O=>⟨HB.out.below (below_al1 wo O),by rw [hN.out];exact HO.out.alloc O⟩
        clear HY HNoS hs
        go_wp2_with fail
        go_roundw
        case rel=>exact ⟨k+1,by omega,by go_num,(HAl.out _).1,(HAl.out _).2⟩
        case measure=>simp [intOf] <;> omega
   · go_wp2_with fail
     go_ret
     have e:left.take k=left:=List.take_of_length_le (by have:=HN2.out;omega)
     refine ⟨_,rfl,?_,HB.out.bel⟩
     have:=HO.out
     rw [e] at this
     rw [notes_len,HN1.out]
     exact this.mono (by omega)
end Go.Proofs

namespace Go.Proofs
open Go.RowKit Go.Lx Go.Md Go.Shelf Go.BigFrame Go.Rgi
set_option linter.unusedVariables false
set_option maxRecDepth 100000 in
set_option maxHeartbeats 2000000 in
theorem rem_any {Q:Nat→BP} (m:MdlD) (p:Ph) (last:List Int) (lv:Value) (H3 H4:Nat) (r:Nat) (w:World) (hm:Mod Q w m p) (hb:Box w H3 (.string m.nm) (.slice p.a1 m.vars.length p.c1) (.slice p.a2 m.evs.length p.c2) (.slice p.a3 m.regs.length p.c3) (.slice p.a4 m.vers.length p.c4) (.slice p.a5 m.trns.length p.c5))
   (h4:w.cell? ⟨H4,0,none⟩=some lv) (hr:RowIn w lv last) (hl:last.length≤100000) (hf:fitRow m last=true) (hrl:r<last.length) (hvl:m.vers.length≤140737488355328) :
   Calls Tryz.prog 156 #[.int .i64 r,.pointer (some ⟨H4,0,none⟩),.pointer (some ⟨H3,0,none⟩)] w fun e w'=>e=.returned (.bool (remM m last r))∧Below w.heap.size w w':=by
 obtain ⟨a,c,rfl,hc,q⟩:=hr.len
 obtain ⟨b1,o1,rfl,_,hc1⟩:=q r hrl
 have hmay:=fit_at hf hrl
 have hg:last.getD r (-1)=last[r]:=by rw [List.getD_eq_getElem?_getD,List.getElem?_eq_getElem hrl];rfl
 have hat:atL last r=last[r]:=by unfold atL;rw [Int.toNat_natCast];exact hg
 rw [hg] at hmay
 have hR:remM m last r=Md.stM m last[r]:=by unfold remM;rw [hat]
 rw [hR]
 obtain ⟨y,hy⟩:∃ y,last[r]=y:=⟨_,rfl⟩
 rw [hy] at hc1 hmay ⊢
 have hI:(r:Int)<(last.length:Int):=by omega
 have hI0:(0:Int)≤(r:Int):=by omega
 obtain ⟨n,hn⟩:∃ n,last.length=n:=⟨_,rfl⟩
 rw [hn] at h4 hc hI hl
 obtain ⟨x0,x1,x2,x3,x4,x5,_⟩:=hb
 clear hr q hf hrl hg hat hR hy hn
 by_cases hy0:0≤y
 · have hv:hasV m y=true:=by
     unfold mayM at hmay
     cases hv:hasV m y with
     | true=>rfl
     | false=>rw [hv] at hmay;simp at hmay;omega
   obtain ⟨v,rfl,hvk⟩:=hasV_yes hv
   obtain ⟨b2,o2,ha2,hb2,hc2⟩:=hm.vers.get hvk
   have hcap2:=hm.vers.cap (by omega)
   rw [ha2] at x4
   have est:Md.stM m (v:Int)=(m.vers[v].kd == 1):=by
     unfold Md.stM;rw [Int.toNat_natCast,List.getElem?_eq_getElem hvk];simp
   rw [est]
   obtain ⟨x,hx⟩:∃ x,x=m.vers[v]:=⟨_,rfl⟩
   rw [← hx] at hc2 ⊢
   obtain ⟨dv,hdv,r0,r1,r2,r3,r4,r5,r6,r7⟩:=hc2
   have h2:(v:Int)<(m.vers.length:Int):=by omega
   have hd0:decide ((0:Int)≤(v:Int))=true:=by simp
   clear hm hmay hv ha2 est hx hdv r0 r2 r3 r4 r5 r6 r7 x0 x1 x2 x3 x5
   cases d2:(x.kd == 1) with
   | true =>
    have e2:((x.kd:Int) == 1)=true:=by simp at d2 ⊢;omega
    go_enter Tryz.func156,Tryz.ntmps156
    go_wp2
    go_quiet (fail)
    go_wp2
    go_ret
    exact ⟨rfl,below_drewN (Below.refl _ _) nq⟩
   | false =>
    have e2:((x.kd:Int) == 1)=false:=by simp at d2 ⊢;omega
    go_enter Tryz.func156,Tryz.ntmps156
    go_wp2
    go_quiet (fail)
    go_wp2
    go_ret
    exact ⟨rfl,below_drewN (Below.refl _ _) nq⟩
 · have est:Md.stM m y=false:=by unfold Md.stM;simp;omega
   rw [est]
   have hd0:decide ((0:Int)≤y)=false:=by simpa using hy0
   clear hm hmay est x0 x1 x2 x3 x4 x5
   go_enter Tryz.func156,Tryz.ntmps156
   go_wp2
   go_quiet (fail)
   go_wp2
   go_ret
   exact ⟨rfl,below_drewN (Below.refl _ _) nq⟩
structure K0 (B6 N:Nat) (w0 w:World):Prop where
 os:w.os=w0.os
 tape:w.tape=w0.tape
 output:w.output=w0.output
 size:w0.heap.size≤w.heap.size
 blk:∀ b,b<N→b≠B6→w.heap[b]? = w0.heap[b]?
structure Kp (B6:Nat) (v:Value) (w w':World):Prop where
 os:w'.os=w.os
 tape:w'.tape=w.tape
 output:w'.output=w.output
 size:w.heap.size≤w'.heap.size
 blk:∀ b,b<w.heap.size→b≠B6→v.ownBlock≠some b→w'.heap[b]? = w.heap[b]?
structure En (B6 N:Nat) (l:List Int) (v:Value) (w:World):Prop where
 c:w.cell? ⟨B6,0,none⟩=some v
 f:w.frozen? ⟨B6,0,none⟩=false
 row:w.ownsRow N 3 1 v l.length (nums l)
theorem Kp.refl (B6:Nat) (v:Value) (w:World):Kp B6 v w w:=⟨rfl,rfl,rfl,Nat.le_refl _,fun _ _ _ _=>rfl⟩
theorem Kp.of_below {B6:Nat} {v:Value} {w w':World} (g:Below w.heap.size w w'):Kp B6 v w w':=⟨g.os,g.tape,g.output,g.size,fun b hb _ _=>g.block b hb⟩
theorem Kp.trans {B6:Nat} {v v':Value} {a b c:World} (h:Kp B6 v a b) (k:Kp B6 v' b c) (hn:Nxt v v' a.heap.size):Kp B6 v a c :=
 ⟨k.os.trans h.os,k.tape.trans h.tape,k.output.trans h.output,Nat.le_trans h.size k.size,fun i hi h6 hv=>(k.blk i (Nat.lt_of_lt_of_le hi h.size) h6 (fun e=>by
   rcases hn with hn | hn
   · exact hv (by rw [← hn];exact e)
   · have:=hn i e;omega)).trans (h.blk i hi h6 hv)⟩
theorem K0.kp {B6 N:Nat} {v:Value} {w0 w w':World} {n:Nat} {xs:List Value} (h:K0 B6 N w0 w) (k:Kp B6 v w w') (ho:w.ownsRow N 3 1 v n xs) (hN:N≤w.heap.size):K0 B6 N w0 w' :=
 ⟨k.os.trans h.os,k.tape.trans h.tape,k.output.trans h.output,Nat.le_trans h.size k.size,fun b hb h6=>(k.blk b (by omega) h6 (fun e=>by have:=(ho.lt b e).1;omega)).trans (h.blk b hb h6)⟩
theorem En.below {B6 N:Nat} {l:List Int} {v:Value} {w w':World} (h:En B6 N l v w) (g:Below w.heap.size w w'):En B6 N l v w':=by
 have hl:=World.block_lt_of_cell? w _ h.c
 exact ⟨(g.cell (p:=⟨B6,0,none⟩) hl).trans h.c,(g.frozen (p:=⟨B6,0,none⟩) hl).trans h.f,ownsRow_keep h.row g⟩
theorem En.push {B6 N:Nat} {l:List Int} {v:Value} {w w1:World} {o:Obj} {x:Int} {g c:Nat} (h:En B6 N l v w) (h6:B6<N) (hg:(w.alloc o).grownBy w1 v.ownBlock) (ho:w1.ownsRow N 3 1 (.slice (some ⟨g,0,none⟩) (l.length+1) c) (l.length+1) (nums l ++ [.int .i64 x])) (hat:Nxt v (.slice (some ⟨g,0,none⟩) (l.length+1) c) w.heap.size) :
   w1.cell? ⟨B6,0,none⟩=some v∧w1.frozen? ⟨B6,0,none⟩=false∧En B6 N (l ++ [x]) (.slice (some ⟨g,0,none⟩) (l.length+1) c) (w1.setCell ⟨B6,0,none⟩ (.slice (some ⟨g,0,none⟩) (l.length+1) c))∧Kp B6 v w (w1.setCell ⟨B6,0,none⟩ (.slice (some ⟨g,0,none⟩) (l.length+1) c)):=by
 have hl:B6<w.heap.size:=World.block_lt_of_cell? w _ h.c
 have hne:∀ b,b<N→v.ownBlock≠some b:=fun b hb e=>by have:=(h.row.lt b e).1;omega
 have hb:∀ b,b<w.heap.size→v.ownBlock≠some b→w1.heap[b]? = w.heap[b]? := fun b hb hn=>(hg.block b (by simp;omega) (fun e=>hn e.symm)).trans (Below.heap_alloc w o b hb)
 have hc:w1.cell? ⟨B6,0,none⟩=some v:=(World.cell?_of_block (w:=w) (hb B6 hl (hne B6 h6))).trans h.c
 have hf:w1.frozen? ⟨B6,0,none⟩=false:=(World.frozen?_of_block (w:=w) (hb B6 hl (hne B6 h6))).trans h.f
 refine ⟨hc,hf,⟨World.cell?_setCell_same _ _ _ hc,by rw [World.frozen?_setCell];exact hf,?_⟩,⟨hg.os,hg.tape,hg.output,by have:=hg.size;simp at this ⊢;omega,fun b hb1 h6b hv=>(Below.heap_setCell w1 ⟨B6,0,none⟩ _ b h6b).trans (hb b hb1 hv)⟩⟩
 have:=ownsRow_setCell_below (a:=⟨B6,0,none⟩) ho h6 (.slice (some ⟨g,0,none⟩) (l.length+1) c)
 rw [show (l ++ [x]).length=l.length+1 by simp,show nums (l ++ [x])=nums l ++ [.int .i64 x] by simp [nums]]
 exact this
structure Stt (m:MdlD) (p:Ph) (last:List Int) (lv:Value) (IB B3 B4 B8 B10 B12 B6:Nat) (w:World):Prop where
 mod:∃ Q,Mod Q w m p
 box:Box w B3 (.string m.nm) (.slice p.a1 m.vars.length p.c1) (.slice p.a2 m.evs.length p.c2) (.slice p.a3 m.regs.length p.c3) (.slice p.a4 m.vers.length p.c4) (.slice p.a5 m.trns.length p.c5)
 c4:w.cell? ⟨B4,0,none⟩=some lv
 row:RowIn w lv last
 c8:w.cell? ⟨B8,0,none⟩=some (.pointer (some ⟨IB,0,none⟩))
 idx:∃ B,IdxAt B m IB w
 c10:w.cell? ⟨B10,0,none⟩=some (.func (.func 156) #[] #[.pointer (some ⟨B4,0,none⟩),.pointer (some ⟨B3,0,none⟩)])
 c12:w.cell? ⟨B12,0,none⟩=some (.func (.func 157) #[] #[.pointer (some ⟨B8,0,none⟩),.pointer (some ⟨B10,0,none⟩),.pointer (some ⟨B12,0,none⟩),.pointer (some ⟨B4,0,none⟩),.pointer (some ⟨B6,0,none⟩)])
theorem Stt.below {m:MdlD} {p:Ph} {last:List Int} {lv:Value} {IB B3 B4 B8 B10 B12 B6:Nat} {w w':World} (h:Stt m p last lv IB B3 B4 B8 B10 B12 B6 w) (g:Below w.heap.size w w'):Stt m p last lv IB B3 B4 B8 B10 B12 B6 w':=by
 obtain ⟨Q,hm⟩:=h.mod
 obtain ⟨B,hi⟩:=h.idx
 exact ⟨⟨Q,hm.below g⟩,h.box.below g h.box.sl,(g.cell (p:=⟨B4,0,none⟩) (World.block_lt_of_cell? w _ h.c4)).trans h.c4,h.row.below g,(g.cell (p:=⟨B8,0,none⟩) (World.block_lt_of_cell? w _ h.c8)).trans h.c8,⟨B,hi.grown g⟩,(g.cell (p:=⟨B10,0,none⟩) (World.block_lt_of_cell? w _ h.c10)).trans h.c10,(g.cell (p:=⟨B12,0,none⟩) (World.block_lt_of_cell? w _ h.c12)).trans h.c12⟩
theorem keepsR_nil {m:MdlD} {last:List Int} {f:Nat} {rs:List Int} (h:rs.any (remM m last)=false):keepsR m last f rs=[]:=by
 unfold keepsR
 rw [List.filter_eq_nil_iff.2 (fun x hx=>by rw [List.any_eq_false] at h;exact h x hx)];rfl
theorem keepsR_take_le {m:MdlD} {last:List Int} {f:Nat} (rs:List Int) (k:Nat):(keepsR m last f (rs.take k)).length≤(keepsR m last f rs).length:=by
 have h:keepsR m last f rs=keepsR m last f (rs.take k) ++ keepsR m last f (rs.drop k):=by
   unfold keepsR
   rw [← List.flatMap_append,← List.filter_append,List.take_append_drop]
 rw [h,List.length_append];omega
theorem keepsF_succ (m:MdlD) (last:List Int) (f:Nat) (s:Int):keepsF m last (f+1) s=if (ownM m s).any (remM m last) then keepsR m last f (ownM m s) else [s]:=rfl
def KeP (m:MdlD) (last:List Int) (f:Nat) (s:Int) (B6 N:Nat) (l:List Int) (v:Value) (w:World) (e:Ending) (w':World):Prop :=
 ∃ v',e=.returned (.tuple #[])∧En B6 N (l ++ keepsF m last f s) v' w'∧Kp B6 v w w'∧Nxt v v' w.heap.size
set_option maxRecDepth 100000 in
set_option maxHeartbeats 4000000 in
theorem keeps_any {m:MdlD} {p:Ph} {last:List Int} {lv:Value} {IB B3 B4 B8 B10 B12 B6 N:Nat} {w0:World} (HS:Hid (∀ w,K0 B6 N w0 w→Stt m p last lv IB B3 B4 B8 B10 B12 B6 w)) (h0:riM m=(0,0,0)) (hl:last.length=m.regs.length) (hf:fitRow m last=true)
   (hb1:m.regs.length≤1000) (hb2:m.vers.length≤1000) (h6:B6<N) (hN:N≤w0.heap.size):∀ (f s:Nat) (hs:s<m.vers.length) (hd:65≤deM m s+f) (l:List Int) (v:Value) (w:World),K0 B6 N w0 w→En B6 N l v w→l.length+(keepsF m last f s).length≤100000 →
   Calls Tryz.prog 157 #[.int .i64 s,.pointer (some ⟨B8,0,none⟩),.pointer (some ⟨B10,0,none⟩),.pointer (some ⟨B12,0,none⟩),.pointer (some ⟨B4,0,none⟩),.pointer (some ⟨B6,0,none⟩)] w (KeP m last f s B6 N l v w)
 | 0,s,hs,hd,_,_,_,_,_,_=>by have:=deep_right h0 hs;omega
 | f+1,s,hs,hd,l,v,w,hk,he,hlen=>by
   have ih:=Lib.hid (keeps_any HS h0 hl hf hb1 hb2 h6 hN f)
   have HE:=Lib.hid he
   have HK:=Lib.hid hk
   have hNw:N≤w.heap.size:=Nat.le_trans hN hk.size
   have hst:=HS.out w hk
   obtain ⟨B,hi⟩:=hst.idx
   have HReg:=Lib.hid (regions_any hi (s:Int) (WalkArith.wf_i64 (by omega)) (by omega))
   have c8:=hst.c8
   have HDn:Hid (∀ b,(ownM m s).any (remM m last)=b→(b=true→keepsF m last (f+1) s=keepsR m last f (ownM m s))∧(b=false→keepsF m last (f+1) s=[(s:Int)]∧keepsR m last f (ownM m s)=[])):=fun b hb=>⟨fun ht=>by rw [keepsF_succ,hb,ht];rfl,fun hf'=>by rw [keepsF_succ,hb,hf'];exact ⟨rfl,keepsR_nil (by rw [hb,hf'])⟩⟩
   have HLn:Hid (∀ k,l.length+(keepsR m last f ((ownM m s).take k)).length≤100000):=fun k=>by
     have h1:=keepsR_take_le (m:=m) (last:=last) (f:=f) (ownM m s) k
     cases hb:(ownM m s).any (remM m last) with
     | true=>rw [(HDn.out true hb).1 rfl] at hlen;omega
     | false=>rw [((HDn.out false hb).2 rfl).1,List.length_singleton] at hlen;rw [((HDn.out false hb).2 rfl).2,List.length_nil] at h1;omega
   have HAp:Hid (l.length+1≤100001):=Lib.hid (by have:l.length≤100000:=(by omega);omega)
   obtain ⟨iI,hiI,zI0,zI1,zI2⟩:=info_parts info_Num
   clear hst hi hk he hlen
   go_enter Tryz.func157,Tryz.ntmps157
   go_wp2_with fail
   refine (HReg.out).mono ?_
   rintro e w1 ⟨rv,rfl,ho,g1⟩
   have K1:Hid (K0 B6 N w0 w1):=HK.out.kp (Kp.of_below (v:=v) g1) HE.out.row hNw
   have E1:Hid (En B6 N l v w1):=HE.out.below g1
   have hz1:w.heap.size≤w1.heap.size:=g1.size
   have P1:Hid (Kp B6 v w w1):=Kp.of_below g1
   obtain ⟨ra,rc,rfl⟩:=ownsRow_slice ho
   have HRw:Hid (∀ wr,Kp B6 v w1 wr→wr.ownsRow w.heap.size 3 1 (.slice ra (ownM m s).length rc) (ownM m s).length (nums (ownM m s))):=fun wr k=>by
     refine ⟨ho.1,?_⟩
     rcases ho.2 with h2 | ⟨g,cap,cur,e,hb,hg,r⟩
     · exact .inl h2
     · refine .inr ⟨g,cap,cur,e,hb,(k.blk g (Array.getElem?_eq_some_iff.1 hg).1 (by omega) (fun e'=>?_)).trans hg,r⟩
       have:=(HE.out.row.lt g e').2;omega
   clear ho g1 HReg HK HE
   obtain ⟨n,hn⟩:∃ n,(ownM m s).length=n:=⟨_,rfl⟩
   have HN:=Lib.hid hn
   have hnb:n≤1000:=by have h:=sel_len (isOwn (s:Int)) m.regs;have e:(ownM m s).length≤m.regs.length:=h;omega
   rw [hn] at HRw ⊢
   clear hn
   go_wp2_with fail
   go_loopw [7,14] (fun b i wr=>∃ (k:Nat) (v':Value),k≤n∧i=.int .i64 k∧b=.bool (((ownM m s).take k).any (remM m last))∧K0 B6 N w0 wr∧En B6 N (l ++ keepsR m last f ((ownM m s).take k)) v' wr∧Kp B6 v w1 wr∧Nxt v v' w1.heap.size) (fun _ i _=>n - (intOf i).toNat)
   case atStart=>exact ⟨0,v,by omega,rfl,rfl,K1.out,by rw [List.take_zero];simpa [keepsR] using E1.out,Kp.refl _ _ _,Nxt.refl _ _⟩
   case round =>
    obtain ⟨wo,rfl⟩:∃ wo:World,wo=wr:=⟨_,rfl⟩
    obtain ⟨k,v1,hk,rfl,rfl,k0,en,kp,nx⟩:=hrel
    have KO:=Lib.hid k0
    have EO:=Lib.hid en
    have PO:=Lib.hid kp
    have NO:=Lib.hid nx
    clear k0 en kp nx K1 E1
    by_cases hlt:k<n
    · have hkl:k<(ownM m s).length:=by rw [HN.out];exact hlt
      obtain ⟨q,hq,eq0,hoq⟩:=(sel_mem (isOwn (s:Int)) m.regs _).1 (List.getElem_mem hkl)
      have eq1:(ownM m s)[k]=(q:Int):=eq0
      have hrow:=HRw.out wo PO.out
      obtain ⟨g,c,e⟩:=ownsRow_pos hrow (by omega)
      simp only [Value.slice.injEq,true_and] at e
      obtain ⟨rfl,rfl⟩:=e
      have hcap:n≤rc:=by
        rcases hrow.2 with ⟨e,_⟩ | ⟨g',c',_,e,_,_,hc,_⟩
        · cases e
        · simp only [Value.slice.injEq] at e;omega
      have hck:wo.cell? ⟨g,k,none⟩=some (.int .i64 q):=(hrow.cellAt k (by omega)).trans (by rw [List.getElem?_map,List.getElem?_eq_getElem hkl,eq1];rfl)
      have hI:(k:Int)<(n:Int):=by omega
      have hI0:(0:Int)≤(k:Int):=by omega
      have hst:=HS.out wo KO.out
      obtain ⟨Q,hm⟩:=hst.mod
      have HRem:=Lib.hid (rem_any m p last lv B3 B4 q wo hm hst.box hst.c4 hst.row (by omega) hf (by omega) (by omega))
      have c10:=hst.c10
      have htk:(ownM m s).take (k+1)=(ownM m s).take k ++ [(q:Int)]:=by rw [List.take_succ_eq_append_getElem hkl,eq1]
      have HKr:Hid (∀ b,remM m last q=b→keepsR m last f ((ownM m s).take (k+1))=keepsR m last f ((ownM m s).take k) ++ (if b=true then keepsF m last f (atL last q) else [])∧((ownM m s).take (k+1)).any (remM m last)=(((ownM m s).take k).any (remM m last) || b)):=fun b hb=>by
        rw [htk,keepsR_snoc,hb,List.any_append]
        refine ⟨rfl,?_⟩
        rw [List.any_cons,hb];simp
      have HCh:Hid (remM m last q=true→∃ kk:Nat,kk<m.vers.length∧atL last q=kk∧65≤deM m kk+f):=fun hb=>by
        obtain ⟨kk,hkk,e1,_,_,e2⟩:=rem_at h0 hl hf hq hb
        refine ⟨kk,hkk,e1,?_⟩
        have:=dp_succ h0 hkk hs (by rw [e2];simpa [isOwn] using hoq)
        omega
      clear hst hm hrow hoq eq1 eq0 htk hkl
      cases hd2:remM m last q with
      | false =>
       obtain ⟨q1,q2⟩:=HKr.out false hd2
       rw [hd2] at HRem
       have Q1:=Lib.hid q1
       have Q2:=Lib.hid q2
       clear q1 q2 hd2 HKr HCh
       go_wp2_with ((with_reducible refine (HRem.out).mono ?_);rintro e w5 ⟨rfl,g5⟩)
       go_roundw
       case rel =>
        refine ⟨k+1,v1,by omega,by go_num,?_,KO.out.kp (Kp.of_below (v:=v1) g5) EO.out.row (Nat.le_trans hN KO.out.size),?_,PO.out.trans (Kp.of_below (v:=v1) g5) NO.out,NO.out⟩
        · rw [Q2.out,Bool.or_false]
        · rw [Q1.out];simpa using EO.out.below g5
       case measure=>simp [intOf] <;> omega
      | true =>
       obtain ⟨q1,q2⟩:=HKr.out true hd2
       obtain ⟨kk,hkk,e1,hdd⟩:=HCh.out hd2
       rw [e1,if_pos rfl] at q1
       rw [hd2] at HRem
       have Q1:=Lib.hid q1
       have Q2:=Lib.hid q2
       have hql:q<last.length:=by omega
       have HLk:=Lib.hid (HLn.out (k+1))
       have HLast:Hid (last[q]=(kk:Int)):=by
         have:last.getD q (-1)=kk:=by unfold atL at e1;simpa using e1
         rw [List.getD_eq_getElem?_getD,List.getElem?_eq_getElem hql] at this;exact this
       clear q1 q2 hd2 HKr HCh e1
       go_upto_region 6 with ((with_reducible refine (HRem.out).mono ?_);rintro e w5 ⟨rfl,g5⟩)
       have K5:Hid (K0 B6 N w0 w5):=KO.out.kp (Kp.of_below (v:=v1) g5) EO.out.row (Nat.le_trans hN KO.out.size)
       have E5:=Lib.hid (EO.out.below g5)
       have P5:Hid (Kp B6 v w1 w5):=PO.out.trans (Kp.of_below (v:=v1) g5) NO.out
       have N5:Hid (w1.heap.size≤w5.heap.size):=Nat.le_trans PO.out.size g5.size
       clear g5 c10 hck
       obtain ⟨al,cl,el,hcl,ql⟩:=(HS.out w5 K5.out).row.len
       obtain ⟨bl,ol,rfl,_,_⟩:=ql q hql
       subst el
       have hqI:(q:Int)<(last.length:Int):=by omega
       have hq0:(0:Int)≤(q:Int):=by omega
       have HSK:Hid (∀ W',K0 B6 N w0 W'→W'.cell? ⟨B12,0,none⟩=some (.func (.func 157) #[] #[.pointer (some ⟨B8,0,none⟩),.pointer (some ⟨B10,0,none⟩),.pointer (some ⟨B12,0,none⟩),.pointer (some ⟨B4,0,none⟩),.pointer (some ⟨B6,0,none⟩)])∧W'.cell? ⟨B4,0,none⟩=some (.slice (some ⟨bl,ol,none⟩) last.length cl)∧W'.cell? ⟨bl,ol+q,none⟩=some (.int .i64 kk)):=fun W' kW=>by
         have hs':=HS.out W' kW
         refine ⟨hs'.c12,hs'.c4,?_⟩
         obtain ⟨a',c',e',_,q'⟩:=hs'.row.len
         obtain ⟨b',o',ea,_,hc'⟩:=q' q hql
         rw [ea] at e'
         simp only [Value.slice.injEq,Option.some.injEq,Addr.mk.injEq,and_true,true_and] at e'
         obtain ⟨⟨rfl,rfl⟩,rfl⟩:=e'
         rw [hc',HLast.out]
       have HC6:Hid (∀ W',Below w5.heap.size w5 W'→Calls Tryz.prog 157 #[.int .i64 kk,.pointer (some ⟨B8,0,none⟩),.pointer (some ⟨B10,0,none⟩),.pointer (some ⟨B12,0,none⟩),.pointer (some ⟨B4,0,none⟩),.pointer (some ⟨B6,0,none⟩)] W' (KeP m last f kk B6 N (l ++ keepsR m last f ((ownM m s).take k)) v1 W')):=fun W' g =>
         ih.out kk hkk hdd _ v1 W' (K5.out.kp (Kp.of_below (v:=v1) g) E5.out.row (Nat.le_trans hN K5.out.size)) (E5.out.below g) (by have:=HLk.out;rw [Q1.out,List.length_append] at this;rw [List.length_append];omega)
       have K5d:K0 B6 N w0 w5.drew:=K5.out.kp (Kp.of_below (v:=v1) (Below.refl _ w5).drew) E5.out.row (Nat.le_trans hN K5.out.size)
       have HK6:Hid (∀ w6,Kp B6 v1 w5.drew w6→K0 B6 N w0 w6):=fun w6 kp=>K5d.kp kp (E5.out.below (Below.refl _ w5).drew).row (Nat.le_trans hN K5.out.size)
       clear hcl ql
       refine wp_region_any (by kernel_rfl) ?_
       change wpAny _ _ _ _ _ _ _ (World.drew _)
       refine wpAny_of_heldS (S:=(fun W'=>W'.cell? ⟨B12,0,none⟩=some (.func (.func 157) #[] #[.pointer (some ⟨B8,0,none⟩),.pointer (some ⟨B10,0,none⟩),.pointer (some ⟨B12,0,none⟩),.pointer (some ⟨B4,0,none⟩),.pointer (some ⟨B6,0,none⟩)])∧W'.cell? ⟨B4,0,none⟩=some (.slice (some ⟨bl,ol,none⟩) last.length cl)∧W'.cell? ⟨bl,ol+q,none⟩=some (.int .i64 kk))) ?_ (fun hHeld=>?_)
       · (try dsimp only) <;> (first | exact HSK.out _ K5d | exact HSK.out _ (HK6.out _ kp2))
       refine tk 0 rfl ?_
       try simp only [Act.put,lyA,lyZ,lyS]
       refine tk 1 rfl ?_
       try simp only [Act.put,lyA,lyZ,lyS]
       refine tk 2 rfl ?_
       try simp only [Act.put,lyA,lyZ,lyS]
       refine tk 3 rfl ?_
       try simp only [Act.put,lyA,lyZ,lyS]
       refine tk 4 rfl ?_
       try simp only [Act.put,lyA,lyZ,lyS]
       refine rdy [5] ?_
       refine rdC rfl (fun K hK=>?_) ?_
       (go_simp;(with_reducible refine (HC6.out _ (Below.refl _ w5).drew).mono ?_);rintro e w6 ⟨v2,rfl,en2,kp2,nx2⟩;go_wp2_with fail)
       refine hK.out _ _ ?_ (fun hH1=>?_)
       · (try dsimp only) <;> (first | exact HSK.out _ K5d | exact HSK.out _ (HK6.out _ kp2))
       clear hK K hHeld
       try simp only [Act.put,lyA,lyZ,lyS]
       refine wpAnyH_done (by kernel_rfl) ?_ _
       rotate_left
       exact AllReadyH.nil
       have K6:=Lib.hid (HK6.out _ kp2)
       have E6:=Lib.hid en2
       have P6:=Lib.hid kp2
       have N6:=Lib.hid nx2
       clear en2 kp2 nx2 hH1 HSK HC6 HK6 K5d
       go_wp2_with fail
       go_roundw
       case rel =>
        have P56:Kp B6 v1 w5 w6:=(Kp.of_below (v:=v1) (Below.refl _ w5).drew).trans P6.out (Nxt.refl _ _)
        refine ⟨k+1,v2,by omega,by go_num,?_,K6.out,?_,P5.out.trans P56 NO.out,NO.out.trans N6.out N5.out⟩
        · rw [Q2.out,Bool.or_true]
        · rw [Q1.out,← List.append_assoc];exact E6.out
       case measure=>simp [intOf] <;> omega
    · have hkn:(ownM m s).take k=ownM m s:=List.take_of_length_le (by have:=HN.out;omega)
      rw [hkn] at EO ⊢
      have P2:Hid (Kp B6 v w wo):=P1.out.trans PO.out (Nxt.refl _ _)
      have N2:Hid (Nxt v v1 w.heap.size):=(Nxt.refl v w.heap.size).trans NO.out hz1
      cases hb:(ownM m s).any (remM m last) with
      | true =>
       have hE:=Lib.hid ((HDn.out true hb).1 rfl)
       clear hb HDn hkn
       go_wp2_with fail
       go_end0
       exact ⟨v1,rfl,by rw [hE.out];exact EO.out,P2.out,N2.out⟩
      | false =>
       obtain ⟨q1,q2⟩:=(HDn.out false hb).2 rfl
       rw [q2,List.append_nil] at EO
       have hE:=Lib.hid q1
       have c6:=EO.out.c
       have hlN:N≤wo.heap.size:=Nat.le_trans hN KO.out.size
       have HH:=Lib.hid (fun (g c:Nat) (w1':World) (hg:(wo.alloc (.cells #[.int .i64 s] 3)).grownBy w1' v1.ownBlock) ho hat=>EO.out.push (x:=(s:Int)) h6 hg (w1:=w1') (g:=g) (c:=c) ho hat)
       have hrow:=Lib.hid EO.out.row
       have hlb:=HAp.out
       have hmax:l.length+1≤maxLen:=by unfold maxLen;omega
       clear hb HDn hkn q1 q2
       go_wp2_with (at_builtin;refine wpList_append_lies _ (by rfl) _ _ 31 (by rfl) N 3 iI _ 1 8 Tryz.underlying31 hiI zI0 zI1 zI2 rfl (by omega) v1 l.length (nums l) (by rfl) (hrow.out.alloc _) ⟨wo.heap.size,0,none⟩ 1 1 [.int .i64 s] (by rfl) (by rfl) (cell_one_new _ _ _) (by simp [Value.oneCell']) (by omega) hmax (by omega) (by simp;omega) (wo.heap.size+1) (by simp) ?_;intro g c w7 ho7 hg7 hat7 hlt7;obtain ⟨c7,f7,en7,kp7⟩:=HH.out g c w7 hg7 ho7 (by rcases hat7 with h | h;exact .inl (by rw [h];rfl);exact .inr (by intro g' hg';simp only [Value.ownBlock,Option.some.injEq] at hg';omega)))
       go_end0
       refine ⟨_,rfl,by rw [hE.out];exact en7,P2.out.trans kp7 N2.out,N2.out.trans ?_ P2.out.size⟩
       rcases hat7 with h | h
       · exact .inl (by rw [h];rfl)
       · exact .inr (by intro g' hg';simp only [Value.ownBlock,Option.some.injEq] at hg';omega)
def EndsP (m:MdlD) (last:List Int) (h:Int) (w:World) (e:Ending) (w':World):Prop :=
 ∃ v',e=.returned (.tuple #[v',.bool (endsM m last h).2])∧w'.ownsRow w.heap.size 3 1 v' (endsM m last h).1.length (nums (endsM m last h).1)∧Below w.heap.size w w'
structure E3 (m:MdlD) (p:Ph) (lv:Value) (last:List Int) (w wx:World):Prop where
 mb:Mb m p w.heap.size w wx
 c4:wx.cell? ⟨w.heap.size+1,0,none⟩=some lv
 c6:wx.cell? ⟨w.heap.size+1+1,0,none⟩=some (.slice none 0 0)
 f6:wx.frozen? ⟨w.heap.size+1+1,0,none⟩=false
theorem E3.below {m:MdlD} {p:Ph} {lv:Value} {last:List Int} {w wx wy:World} (h:E3 m p lv last w wx) (g:Below wx.heap.size wx wy):E3 m p lv last w wy:=by
 have h6:=World.block_lt_of_cell? wx _ h.c6
 have h4:=World.block_lt_of_cell? wx _ h.c4
 exact ⟨h.mb.below g,(g.cell (p:=⟨w.heap.size+1,0,none⟩) h4).trans h.c4,(g.cell (p:=⟨w.heap.size+1+1,0,none⟩) h6).trans h.c6,(g.frozen (p:=⟨w.heap.size+1+1,0,none⟩) h6).trans h.f6⟩
theorem E3.made {Q:Nat→BP} {m:MdlD} {p:Ph} {lv:Value} {last:List Int} {w:World} (h:Mod Q w m p) :
   E3 m p lv last w (((w.alloc (.cells #[.string m.nm,.slice p.a1 m.vars.length p.c1,.slice p.a2 m.evs.length p.c2,.slice p.a3 m.regs.length p.c3,.slice p.a4 m.vers.length p.c4,.slice p.a5 m.trns.length p.c5] 28)).alloc (.cells #[lv] 31)).alloc (.cells #[.slice none 0 0] 31)):=by
 have h1:=Mb.made h
 have z1:(w.alloc (.cells #[.string m.nm,.slice p.a1 m.vars.length p.c1,.slice p.a2 m.evs.length p.c2,.slice p.a3 m.regs.length p.c3,.slice p.a4 m.vers.length p.c4,.slice p.a5 m.trns.length p.c5] 28)).heap.size=w.heap.size+1:=by simp
 obtain ⟨c1,c2,c3,_⟩:=two_allocs_c (w.alloc (.cells #[.string m.nm,.slice p.a1 m.vars.length p.c1,.slice p.a2 m.evs.length p.c2,.slice p.a3 m.regs.length p.c3,.slice p.a4 m.vers.length p.c4,.slice p.a5 m.trns.length p.c5] 28)) lv (.slice none 0 0) 31 31
 rw [z1] at c1 c2 c3
 exact ⟨h1.below (below_al2 _ _ _),c1,c2,c3⟩
theorem stt_k0 {m:MdlD} {p:Ph} {last:List Int} {lv:Value} {IB B B8 B10 B12 N:Nat} {w w0 wx:World} (hE:E3 m p lv last w w0) (hr:RowIn w lv last) (hi:IdxAt B m IB w0) (hB:w.heap.size+1+1<B) (h8:w.heap.size+1+1<B8) (h10:w.heap.size+1+1<B10) (h12:w.heap.size+1+1<B12) (hN:w0.heap.size=N)
   (c8:w0.cell? ⟨B8,0,none⟩=some (.pointer (some ⟨IB,0,none⟩)))
   (c10:w0.cell? ⟨B10,0,none⟩=some (.func (.func 156) #[] #[.pointer (some ⟨w.heap.size+1,0,none⟩),.pointer (some ⟨w.heap.size,0,none⟩)]))
   (c12:w0.cell? ⟨B12,0,none⟩=some (.func (.func 157) #[] #[.pointer (some ⟨B8,0,none⟩),.pointer (some ⟨B10,0,none⟩),.pointer (some ⟨B12,0,none⟩),.pointer (some ⟨w.heap.size+1,0,none⟩),.pointer (some ⟨w.heap.size+1+1,0,none⟩)]))
   (k:K0 (w.heap.size+1+1) N w0 wx):Stt m p last lv IB w.heap.size (w.heap.size+1) B8 B10 B12 (w.heap.size+1+1) wx:=by
 subst hN
 have kc:∀ b j,b<w0.heap.size→b≠w.heap.size+1+1→wx.cell? ⟨b,j,none⟩=w0.cell? ⟨b,j,none⟩:=fun b j h1 h2=>World.cell?_of_block (w:=w0) (k.blk b h1 h2)
 have kf:∀ b j,b<w0.heap.size→b≠w.heap.size+1+1→wx.frozen? ⟨b,j,none⟩=w0.frozen? ⟨b,j,none⟩:=fun b j h1 h2=>World.frozen?_of_block (w:=w0) (k.blk b h1 h2)
 have hz:=hE.mb.bel.size
 have hH:w.heap.size<w0.heap.size:=hE.mb.box.sl
 have bel:Below w.heap.size w wx:=⟨k.os.trans hE.mb.bel.os,k.tape.trans hE.mb.bel.tape,k.output.trans hE.mb.bel.output,Nat.le_trans hz k.size,fun b hb=>(k.blk b (by omega) (by omega)).trans (hE.mb.bel.block b hb)⟩
 have b4:=World.block_lt_of_cell? w0 _ hE.c4
 have b8:=World.block_lt_of_cell? w0 _ c8
 have b10:=World.block_lt_of_cell? w0 _ c10
 have b12:=World.block_lt_of_cell? w0 _ c12
 simp only at b4 b8 b10 b12
 have hb:=hE.mb.box
 refine ⟨⟨_,hE.mb.mod.kept fun j=>⟨k.size,fun b h1 h2=>k.blk b h1 (by have:b<w.heap.size:=h2;omega)⟩⟩,?_,(kc _ _ b4 (by omega)).trans hE.c4,hr.below bel,(kc _ _ b8 (by omega)).trans c8,⟨B,hi.keep k.size fun b h1 h2=>k.blk b h2 (by omega)⟩,(kc _ _ b10 (by omega)).trans c10,(kc _ _ b12 (by omega)).trans c12⟩
 exact ⟨(kc _ _ hH (by omega)).trans hb.c0,(kc _ _ hH (by omega)).trans hb.c1,(kc _ _ hH (by omega)).trans hb.c2,(kc _ _ hH (by omega)).trans hb.c3,(kc _ _ hH (by omega)).trans hb.c4,(kc _ _ hH (by omega)).trans hb.c5,(kf _ _ hH (by omega)).trans hb.f0,(kf _ _ hH (by omega)).trans hb.f1,(kf _ _ hH (by omega)).trans hb.f2,(kf _ _ hH (by omega)).trans hb.f3,(kf _ _ hH (by omega)).trans hb.f4,(kf _ _ hH (by omega)).trans hb.f5⟩
set_option maxRecDepth 100000 in
set_option maxHeartbeats 4000000 in
theorem ends_any {Q:Nat→BP} (m:MdlD) (p:Ph) (last:List Int) (lv:Value) (h:Int) (w:World) (h1:Mod Q w m p) (hm:MdlOk m) (hT:Tab w) (hr:RowIn w lv last) (hl:last.length≤100000) (hb1:m.regs.length≤500) (hb2:m.vers.length≤500) (hb3:m.trns.length≤500) :
   Calls Tryz.prog 64 #[mdV m p,lv,.int .i64 h] w (EndsP m last h w):=by
 obtain ⟨la,lc,rfl,_,_⟩:=hr.len
 have HFt:=Lib.hid (fun wx (hb:Below w.heap.size w wx)=>fits_any m p last _ wx (h1.below hb) hm (hT.next hb) (hr.below hb) (by omega))
 have HNw:=Lib.hid (fun (h0:riM m=(0,0,0)) wx (hb:Below w.heap.size w wx)=>new_right m p wx (h1.below hb) hm (hT.next hb) h0 (by omega) (by omega) (by omega))
 have H3:=Lib.hid (E3.made (lv:=.slice la last.length lc) (last:=last) h1)
 have HR:=Lib.hid hr
 have HP:Hid (∀ b,fitsM m last=b→(b=true→riM m=(0,0,0)∧last.length=m.regs.length∧fitRow m last=true)∧(b=false→endsM m last h=([],false))):=fun b hb=>⟨fun ht=>by
     rw [ht] at hb
     unfold fitsM at hb
     simp only [Bool.and_eq_true,beq_iff_eq] at hb
     exact ⟨riM_ok hb.1.1,hb.1.2,hb.2⟩,fun hf=>by rw [hf] at hb;unfold endsM;rw [hb];rfl⟩
 unfold mdV at HFt HNw ⊢
 clear h1 hm hT hr
 cases hd:fitsM m last with
 | false =>
  have hp:=(HP.out false hd).2 rfl
  unfold EndsP
  rw [hp]
  rw [hd] at HFt
  clear HP hd hp
  go_enter Tryz.func64,Tryz.ntmps64
  go_wp2_with fail
  refine (HFt.out _ H3.out.mb.bel).mono ?_
  rintro e w3 ⟨rfl,g3⟩
  have H4:=Lib.hid (H3.out.below g3)
  have c6:=H4.out.c6
  have f6:=H4.out.f6
  clear g3 HFt H3
  go_wp2_with fail
  have e7:=World.cell?_setCell_same w3 _ (.slice none 0 0) c6
  refine bodyPost_ret (v:=.tuple #[.slice none 0 0,.bool false]) (by simp [results,Tryz.results64,go_sem,e7]) rfl ⟨_,rfl,World.ownsRow_nil _ _ _ _,H4.out.mb.bel.setCell (p:=⟨w.heap.size+1+1,0,none⟩) (by simp only;omega) _⟩
 | true =>
  obtain ⟨h0,hll,hft⟩:=(HP.out true hd).1 rfl
  have H0:=Lib.hid h0
  have HLL:=Lib.hid hll
  have HFit:=Lib.hid hft
  rw [hd] at HFt
  have HD:Hid (∀ b,(hasV m h && (kdA m h == 8 || kdA m h == 9) && remM m last (rgA m h))=b→(b=false→endsM m last h=([],false))∧(b=true→endsM m last h=(if kdA m h == 8 then [atL last (rgA m h)] else keepsF m last 65 (atL last (rgA m h)),true))):=fun b hb=>⟨fun hf=>by unfold endsM;rw [if_neg];rw [hd,Bool.true_and,hb,hf];simp,fun ht=>by unfold endsM;rw [if_pos];rw [hd,Bool.true_and,hb,ht]⟩
  clear HP hd h0 hll hft
  cases hv:hasV m h with
  | false =>
   have hp:=(HD.out false (by rw [hv];rfl)).1 rfl
   unfold EndsP
   rw [hp]
   unfold hasV at hv
   by_cases hp0:0≤h
   · have hp1:¬ (h<m.vers.length):=by simp [hp0] at hv;omega
     clear hp HD HNw hv
     go_enter Tryz.func64,Tryz.ntmps64
     go_wp2_with fail
     refine (HFt.out _ H3.out.mb.bel).mono ?_
     rintro e w3 ⟨rfl,g3⟩
     have H4:=Lib.hid (H3.out.below g3)
     have c6:=H4.out.c6
     have f6:=H4.out.f6
     obtain ⟨x0,x1,x2,x3,x4,x5,_⟩:=H4.out.mb.box
     clear g3 HFt H3
     go_wp2_with fail
     have e7:=World.cell?_setCell_same w3 _ (.slice none 0 0) c6
     refine bodyPost_ret (v:=.tuple #[.slice none 0 0,.bool false]) (by simp [results,Tryz.results64,go_sem,e7]) rfl ⟨_,rfl,World.ownsRow_nil _ _ _ _,H4.out.mb.bel.setCell (p:=⟨w.heap.size+1+1,0,none⟩) (by simp only;omega) _⟩
   · clear hp HD HNw hv
     go_enter Tryz.func64,Tryz.ntmps64
     go_wp2_with fail
     refine (HFt.out _ H3.out.mb.bel).mono ?_
     rintro e w3 ⟨rfl,g3⟩
     have H4:=Lib.hid (H3.out.below g3)
     have c6:=H4.out.c6
     have f6:=H4.out.f6
     clear g3 HFt H3
     go_wp2_with fail
     have e7:=World.cell?_setCell_same w3 _ (.slice none 0 0) c6
     refine bodyPost_ret (v:=.tuple #[.slice none 0 0,.bool false]) (by simp [results,Tryz.results64,go_sem,e7]) rfl ⟨_,rfl,World.ownsRow_nil _ _ _ _,H4.out.mb.bel.setCell (p:=⟨w.heap.size+1+1,0,none⟩) (by simp only;omega) _⟩
  | true =>
   obtain ⟨k,rfl,hk⟩:=hasV_yes hv
   have hI0:(0:Int)≤(k:Int):=by omega
   have hI1:(k:Int)<(m.vers.length:Int):=by omega
   go_enter Tryz.func64,Tryz.ntmps64
   go_wp2_with fail
   refine (HFt.out _ H3.out.mb.bel).mono ?_
   rintro e w3 ⟨rfl,g3⟩
   have H4:=Lib.hid (H3.out.below g3)
   obtain ⟨x0,x1,x2,x3,x4,x5,_⟩:=H4.out.mb.box
   clear g3 HFt H3
   go_wp2_with fail
   refine (HNw.out H0.out _ H4.out.mb.bel).mono ?_
   rintro e w4 ⟨IB,rfl,g4,hi⟩
   have H5:=Lib.hid (H4.out.below g4)
   have HI:=Lib.hid hi
   have hz3:w.heap.size+1+1<w3.heap.size:=World.block_lt_of_cell? w3 _ H4.out.c6
   have hz4:w3.heap.size≤w4.heap.size:=g4.size
   clear g4 hi HNw x0 x1 x2 x3 x4 x5 H4
   go_upto_region 5 with fail
   obtain ⟨c8,c10,_,z5e⟩:=two_allocs_c w4 (.pointer (some ⟨IB,0,none⟩)) (.func (.func 156) #[] #[.pointer (some ⟨w.heap.size+1,0,none⟩),.pointer (some ⟨w.heap.size,0,none⟩)]) 45 50
   have H6:=Lib.hid (H5.out.below (below_al2 w4 (.cells #[.pointer (some ⟨IB,0,none⟩)] 45) (.cells #[.func (.func 156) #[] #[.pointer (some ⟨w.heap.size+1,0,none⟩),.pointer (some ⟨w.heap.size,0,none⟩)]] 50)))
   have HI6:=Lib.hid (HI.out.grown (below_al2 w4 (.cells #[.pointer (some ⟨IB,0,none⟩)] 45) (.cells #[.func (.func 156) #[] #[.pointer (some ⟨w.heap.size+1,0,none⟩),.pointer (some ⟨w.heap.size,0,none⟩)]] 50)))
   generalize (w4.alloc (.cells #[.pointer (some ⟨IB,0,none⟩)] 45)).alloc (.cells #[.func (.func 156) #[] #[.pointer (some ⟨w.heap.size+1,0,none⟩),.pointer (some ⟨w.heap.size,0,none⟩)]] 50)=w5 at *
   have Z5:=Lib.hid z5e
   have z5a:=Nat.le_of_eq z5e
   have z5b:=Nat.le_of_eq z5e.symm
   clear z5e HI H5
   obtain ⟨b1,o1,ha1,hbl1,hc1⟩:=H6.out.mb.mod.vers.get hk
   have hcap:=H6.out.mb.mod.vers.cap (by omega)
   obtain ⟨x0,x1,x2,x3,x4,x5,_⟩:=H6.out.mb.box
   rw [ha1] at x4
   have HRg:Hid (m.vers[k].kd≠10→m.vers[k].kd≠11→∃ r:Nat,m.vers[k].rg=r∧r<m.regs.length):=fun h1 h2=>by
     have:=plain_at H0.out hk ⟨h1,h2⟩
     exact ⟨m.vers[k].rg.toNat,by omega,by omega⟩
   have HDk:Hid (∀ b,((m.vers[k].kd == 8 || m.vers[k].kd == 9) && remM m last m.vers[k].rg)=b→(b=false→endsM m last k=([],false))∧(b=true→endsM m last k=(if m.vers[k].kd == 8 then [atL last m.vers[k].rg] else keepsF m last 65 (atL last m.vers[k].rg),true))):=fun b hb=>by
     have e1:kdA m (k:Int)=m.vers[k].kd:=by unfold kdA;rw [Int.toNat_natCast,List.getElem?_eq_getElem hk]
     have e2:rgA m (k:Int)=m.vers[k].rg:=by unfold rgA;rw [Int.toNat_natCast,List.getElem?_eq_getElem hk]
     have:=HD.out b (by rw [hv,e1,e2,Bool.true_and];exact hb)
     rw [e1,e2] at this
     exact this
   obtain ⟨x,hx⟩:∃ x,x=m.vers[k]:=⟨_,rfl⟩
   rw [← hx] at hc1 HRg HDk
   obtain ⟨dv,_,r0,r1,r2,r3,r4,r5,r6,r7⟩:=hc1
   clear HD hv hx ha1 r0 r3 r4 r5 r6 r7
   go_upto_region 8 with fail
   have HB56:=Lib.hid (below_al1 w5 (.cells #[(.func (.func 157) #[] #[.pointer (some ⟨w4.heap.size,0,none⟩),.pointer (some ⟨w4.heap.size+1,0,none⟩),.pointer (some ⟨w5.heap.size,0,none⟩),.pointer (some ⟨w.heap.size+1,0,none⟩),.pointer (some ⟨w.heap.size+1+1,0,none⟩)])] 191))
   have c12:(w5.alloc (.cells #[(.func (.func 157) #[] #[.pointer (some ⟨w4.heap.size,0,none⟩),.pointer (some ⟨w4.heap.size+1,0,none⟩),.pointer (some ⟨w5.heap.size,0,none⟩),.pointer (some ⟨w.heap.size+1,0,none⟩),.pointer (some ⟨w.heap.size+1+1,0,none⟩)])] 191)).cell? ⟨w5.heap.size,0,none⟩=some (.func (.func 157) #[] #[.pointer (some ⟨w4.heap.size,0,none⟩),.pointer (some ⟨w4.heap.size+1,0,none⟩),.pointer (some ⟨w5.heap.size,0,none⟩),.pointer (some ⟨w.heap.size+1,0,none⟩),.pointer (some ⟨w.heap.size+1+1,0,none⟩)]):=by simp
   generalize w5.alloc (.cells #[(.func (.func 157) #[] #[.pointer (some ⟨w4.heap.size,0,none⟩),.pointer (some ⟨w4.heap.size+1,0,none⟩),.pointer (some ⟨w5.heap.size,0,none⟩),.pointer (some ⟨w.heap.size+1,0,none⟩),.pointer (some ⟨w.heap.size+1+1,0,none⟩)])] 191)=w6 at *
   have H7:=Lib.hid (H6.out.below HB56.out)
   have HI7:=Lib.hid (HI6.out.grown HB56.out)
   have d8:=(HB56.out.cell (p:=⟨w4.heap.size,0,none⟩) (by simp only;omega)).trans c8
   have d10:=(HB56.out.cell (p:=⟨w4.heap.size+1,0,none⟩) (by simp only;omega)).trans c10
   have HS:Hid (∀ W,K0 (w.heap.size+1+1) w6.heap.size w6 W→Stt m p last (.slice la last.length lc) IB w.heap.size (w.heap.size+1) w4.heap.size (w4.heap.size+1) w5.heap.size (w.heap.size+1+1) W):=fun W k=>stt_k0 H7.out HR.out HI7.out (by omega) (by omega) (by omega) (by omega) rfl d8 d10 c12 k
   have e1:=(HB56.out.cell (p:=⟨b1,o1+k * 8+1,none⟩) hbl1).trans r1
   have x4:=(HB56.out.cell (p:=⟨w.heap.size,4,none⟩) (World.block_lt_of_cell? w5 _ x4)).trans x4
   have hz56:w5.heap.size<w6.heap.size:=World.block_lt_of_cell? w6 _ c12
   have KR:Hid (K0 (w.heap.size+1+1) w6.heap.size w6 w6):=⟨rfl,rfl,rfl,Nat.le_refl _,fun _ _ _=>rfl⟩
   clear H6 HI6 HB56 c8 c10 x0 x1 x2 x3 x5 r1 r2 HI7
   by_cases hkd:x.kd=8∨x.kd=9
   · obtain ⟨r,hrg,hrl⟩:=HRg.out (by omega) (by omega)
     have hkk:(x.kd == 8 || x.kd == 9)=true:=by rcases hkd with e | e <;> simp [e]
     rw [hrg,hkk,Bool.true_and] at HDk
     rw [hrg]
     have hrl2:r<last.length:=by have:=HLL.out;omega
     have hst:=HS.out w6 KR.out
     obtain ⟨Q',hmq⟩:=hst.mod
     have HRem:=Lib.hid (rem_any m p last _ w.heap.size (w.heap.size+1) r w6 hmq hst.box hst.c4 hst.row hl HFit.out hrl2 (by omega))
     clear hst hmq
     cases hrm:remM m last r with
     | false =>
      have hE:=Lib.hid ((HDk.out false hrm).1 rfl)
      rw [hrm] at HRem
      clear HDk hrm HRg
      rcases hkd with e8 | e9
      · have hkd:=Lib.hid e8
        have f8:((x.kd:Int) != 8)=false:=by simp only [bne_eq_false_iff_eq];omega
        have g8:((x.kd:Int) == 8)=true:=by simp only [beq_iff_eq];omega
        clear e8 hkk
        go_wp2_with fail
        refine (HRem.out).mono ?_
        rintro e w7 ⟨rfl,g7⟩
        have H8:=Lib.hid (H7.out.below g7)
        have c6:=H8.out.c6
        have f6:=H8.out.f6
        have hB67:=Lib.hid g7
        clear g7 HRem
        go_wp2_with fail
        have e7:=World.cell?_setCell_same w7 _ (.slice none 0 0) c6
        refine bodyPost_ret (v:=.tuple #[.slice none 0 0,.bool false]) (by simp [results,Tryz.results64,go_sem,e7]) rfl ?_
        unfold EndsP
        rw [hE.out]
        exact ⟨_,rfl,World.ownsRow_nil _ _ _ _,H8.out.mb.bel.setCell (p:=⟨w.heap.size+1+1,0,none⟩) (by simp only;omega) _⟩
      · have hkd:=Lib.hid e9
        have f8:((x.kd:Int) != 8)=true:=by simp only [bne_iff_ne,ne_eq];omega
        have f9:((x.kd:Int) != 9)=false:=by simp only [bne_eq_false_iff_eq];omega
        have g8:((x.kd:Int) == 8)=false:=by simp only [beq_eq_false_iff_ne,ne_eq];omega
        clear e9 hkk
        go_wp2_with fail
        refine (HRem.out).mono ?_
        rintro e w7 ⟨rfl,g7⟩
        have H8:=Lib.hid (H7.out.below g7)
        have c6:=H8.out.c6
        have f6:=H8.out.f6
        have hB67:=Lib.hid g7
        clear g7 HRem
        go_wp2_with fail
        have e7:=World.cell?_setCell_same w7 _ (.slice none 0 0) c6
        refine bodyPost_ret (v:=.tuple #[.slice none 0 0,.bool false]) (by simp [results,Tryz.results64,go_sem,e7]) rfl ?_
        unfold EndsP
        rw [hE.out]
        exact ⟨_,rfl,World.ownsRow_nil _ _ _ _,H8.out.mb.bel.setCell (p:=⟨w.heap.size+1+1,0,none⟩) (by simp only;omega) _⟩
     | true =>
      have hE0:=(HDk.out true hrm).2 rfl
      rw [hrm] at HRem
      clear HDk HRg
      rcases hkd with e8 | e9
      · have hE:Hid (endsM m last k=([atL last r],true)):=by rw [if_pos (by simp [e8])] at hE0;exact Lib.hid hE0
        have f8:((x.kd:Int) != 8)=false:=by simp only [bne_eq_false_iff_eq];omega
        have g8:((x.kd:Int) == 8)=true:=by simp only [beq_iff_eq];omega
        have hy:Hid (last[r]=atL last r):=Lib.hid (by unfold atL;rw [Int.toNat_natCast,List.getD_eq_getElem?_getD,List.getElem?_eq_getElem hrl2];rfl)
        clear e8 hkk hE0 hrm
        go_wp2_with fail
        refine (HRem.out).mono ?_
        rintro e w7 ⟨rfl,g7⟩
        have H8:=Lib.hid (H7.out.below g7)
        have c6:=H8.out.c6
        have f6:=H8.out.f6
        have hB67:=Lib.hid g7
        clear g7 HRem
        obtain ⟨al,cl,el,hcl,ql⟩:=(HR.out.below H8.out.mb.bel).len
        obtain ⟨bl,ol,ea,_,hcr⟩:=ql r hrl2
        simp only [Value.slice.injEq] at el
        obtain ⟨rfl,_,rfl⟩:=el
        subst ea
        rw [hy.out] at hcr
        have c4:=H8.out.c4
        have hrI:(r:Int)<(last.length:Int):=by omega
        have hr0:(0:Int)≤(r:Int):=by omega
        have c6a:=Lib.cell?_alloc_some (.cells #[.int .i64 (atL last r)] 3) c6
        have f6a:=((below_al1 w7 (.cells #[.int .i64 (atL last r)] 3)).frozen (p:=⟨w.heap.size+1+1,0,none⟩) (World.block_lt_of_cell? w7 _ c6)).trans f6
        clear ql
        have hz7:w.heap.size+1+1+1≤w7.heap.size:=by have:=World.block_lt_of_cell? w7 _ c6;simp only at this;omega
        have hO:=World.ownsRow_lit (base:=w.heap.size+1+1+1) (e:=3) (size:=1) w7 #[.int .i64 (atL last r)] 1 hz7 (by unfold maxLen;omega) (by simp)
        have HO:=Lib.hid (ownsRow_setCell_below (a:=⟨w.heap.size+1+1,0,none⟩) (ownsRow_setCell_below (a:=⟨w.heap.size+1+1,0,none⟩) hO (by simp only;omega) (.slice (some ⟨w7.heap.size,0,none⟩) 1 1)) (by simp only;omega) (.slice (some ⟨w7.heap.size,0,none⟩) 1 1))
        clear hO
        go_wp2_with fail
        have e6:=World.cell?_setCell_same _ _ (.slice (some ⟨w7.heap.size,0,none⟩) 1 1) c6a
        have e7:=World.cell?_setCell_same _ _ (.slice (some ⟨w7.heap.size,0,none⟩) 1 1) e6
        refine bodyPost_ret (v:=.tuple #[.slice (some ⟨w7.heap.size,0,none⟩) 1 1,.bool true]) (by simp [results,Tryz.results64,go_sem,e7]) rfl ?_
        unfold EndsP
        rw [hE.out]
        exact ⟨_,rfl,HO.out.mono (by omega),((H8.out.mb.bel.trans ((below_al1 w7 _).mono H8.out.mb.bel.size)).setCell (p:=⟨w.heap.size+1+1,0,none⟩) (by simp only;omega) _).setCell (p:=⟨w.heap.size+1+1,0,none⟩) (by simp only;omega) _⟩
      · have hE:Hid (endsM m last k=(keepsF m last 65 (atL last r),true)):=by rw [if_neg (by simp [e9])] at hE0;exact Lib.hid hE0
        obtain ⟨kk,hkk2,ekk,_⟩:=rem_at H0.out HLL.out HFit.out hrl hrm
        have f8:((x.kd:Int) != 8)=true:=by simp only [bne_iff_ne,ne_eq];omega
        have f9:((x.kd:Int) != 9)=false:=by simp only [bne_eq_false_iff_eq];omega
        have g8:((x.kd:Int) == 8)=false:=by simp only [beq_eq_false_iff_ne,ne_eq];omega
        clear e9 hkk hE0 hrm
        go_wp2_with fail
        refine (HRem.out).mono ?_
        rintro e w7 ⟨rfl,g7⟩
        have H8:=Lib.hid (H7.out.below g7)
        have c6:=H8.out.c6
        have f6:=H8.out.f6
        have hB67:=Lib.hid g7
        clear g7 HRem
        obtain ⟨al,cl,el,hcl,ql⟩:=(HR.out.below H8.out.mb.bel).len
        obtain ⟨bl,ol,ea,_,hcr⟩:=ql r hrl2
        simp only [Value.slice.injEq] at el
        obtain ⟨rfl,_,rfl⟩:=el
        subst ea
        have K7:Hid (K0 (w.heap.size+1+1) w6.heap.size w6 w7):=KR.out.kp (Kp.of_below (v:=.slice none 0 0) hB67.out) (World.ownsRow_nil _ _ 3 _) (Nat.le_refl _)
        have E7:Hid (En (w.heap.size+1+1) w6.heap.size [] (.slice none 0 0) w7):=⟨c6,f6,World.ownsRow_nil _ _ _ _⟩
        have hrI:(r:Int)<(last.length:Int):=by omega
        have hr0:(0:Int)≤(r:Int):=by omega
        have hy:Hid (last[r]=(kk:Int)):=Lib.hid (by rw [← ekk];unfold atL;rw [Int.toNat_natCast,List.getD_eq_getElem?_getD,List.getElem?_eq_getElem hrl2];rfl)
        have HSK:Hid (∀ W',K0 (w.heap.size+1+1) w6.heap.size w6 W'→W'.cell? ⟨w5.heap.size,0,none⟩=some (.func (.func 157) #[] #[.pointer (some ⟨w4.heap.size,0,none⟩),.pointer (some ⟨w4.heap.size+1,0,none⟩),.pointer (some ⟨w5.heap.size,0,none⟩),.pointer (some ⟨w.heap.size+1,0,none⟩),.pointer (some ⟨w.heap.size+1+1,0,none⟩)])∧W'.cell? ⟨w.heap.size+1,0,none⟩=some (.slice (some ⟨bl,ol,none⟩) last.length lc)∧W'.cell? ⟨bl,ol+r,none⟩=some (.int .i64 kk)):=fun W' kW=>by
          have hs':=HS.out W' kW
          refine ⟨hs'.c12,hs'.c4,?_⟩
          obtain ⟨a',c',e',_,q'⟩:=hs'.row.len
          obtain ⟨b',o',ea,_,hc'⟩:=q' r hrl2
          rw [ea] at e'
          simp only [Value.slice.injEq,Option.some.injEq,Addr.mk.injEq,and_true,true_and] at e'
          obtain ⟨⟨rfl,rfl⟩,_⟩:=e'
          rw [hc',hy.out]
        have K7d:K0 (w.heap.size+1+1) w6.heap.size w6 w7.drew:=K7.out.kp (Kp.of_below (v:=.slice none 0 0) (Below.refl _ w7).drew) (World.ownsRow_nil _ _ 3 _) K7.out.size
        have HC7:=Lib.hid (keeps_any HS H0.out HLL.out HFit.out (by omega) (by omega) (by omega) (Nat.le_refl _) 65 kk hkk2 (by omega) [] (.slice none 0 0) w7.drew K7d (E7.out.below (Below.refl _ w7).drew) (by have:=keeps_le H0.out HLL.out HFit.out (f:=65) hkk2;simp;omega))
        have HK8:Hid (∀ w8,Kp (w.heap.size+1+1) (.slice none 0 0) w7.drew w8→K0 (w.heap.size+1+1) w6.heap.size w6 w8):=fun w8 kp=>K7d.kp kp (World.ownsRow_nil _ _ 3 _) K7.out.size
        clear hcl ql c6 f6 hcr
        go_wp2_with fail
        refine wp_region_any (by kernel_rfl) ?_
        change wpAny _ _ _ _ _ _ _ (World.drew _)
        refine wpAny_of_heldS (S:=(fun W'=>W'.cell? ⟨w5.heap.size,0,none⟩=some (.func (.func 157) #[] #[.pointer (some ⟨w4.heap.size,0,none⟩),.pointer (some ⟨w4.heap.size+1,0,none⟩),.pointer (some ⟨w5.heap.size,0,none⟩),.pointer (some ⟨w.heap.size+1,0,none⟩),.pointer (some ⟨w.heap.size+1+1,0,none⟩)])∧W'.cell? ⟨w.heap.size+1,0,none⟩=some (.slice (some ⟨bl,ol,none⟩) last.length lc)∧W'.cell? ⟨bl,ol+r,none⟩=some (.int .i64 kk))) ?_ (fun hHeld=>?_)
        · (try dsimp only) <;> (first | exact HSK.out _ K7d | exact HSK.out _ (HK8.out _ kp2))
        refine tk 0 rfl ?_
        try simp only [Act.put,lyA,lyZ,lyS]
        refine tk 1 rfl ?_
        try simp only [Act.put,lyA,lyZ,lyS]
        refine tk 2 rfl ?_
        try simp only [Act.put,lyA,lyZ,lyS]
        refine tk 3 rfl ?_
        try simp only [Act.put,lyA,lyZ,lyS]
        refine tk 4 rfl ?_
        try simp only [Act.put,lyA,lyZ,lyS]
        refine rdy [5] ?_
        refine rdC rfl (fun K hK=>?_) ?_
        (go_simp;(with_reducible refine (HC7.out).mono ?_);rintro e w8 ⟨v2,rfl,en2,kp2,nx2⟩;go_wp2_with fail)
        refine hK.out _ _ ?_ (fun hH1=>?_)
        · (try dsimp only) <;> (first | exact HSK.out _ K7d | exact HSK.out _ (HK8.out _ kp2))
        clear hK K hHeld
        try simp only [Act.put,lyA,lyZ,lyS]
        refine wpAnyH_done (by kernel_rfl) ?_ _
        rotate_left
        exact AllReadyH.nil
        have K8:=Lib.hid (HK8.out _ kp2)
        have E8:=Lib.hid en2
        clear en2 kp2 nx2 hH1 HSK HC7 HK8 K7d
        rw [List.nil_append] at E8
        obtain ⟨a2,c2,rfl⟩:=ownsRow_slice E8.out.row
        have c6:=E8.out.c
        have f6:=E8.out.f
        go_wp2_with fail
        have e7:=World.cell?_setCell_same _ _ (.slice a2 (keepsF m last 65 kk).length c2) c6
        refine bodyPost_ret (v:=.tuple #[.slice a2 (keepsF m last 65 kk).length c2,.bool true]) (by simp [results,Tryz.results64,go_sem,e7]) rfl ?_
        unfold EndsP
        rw [hE.out,ekk]
        have hbel:Below w.heap.size w w8:=⟨K8.out.os.trans H7.out.mb.bel.os,K8.out.tape.trans H7.out.mb.bel.tape,K8.out.output.trans H7.out.mb.bel.output,Nat.le_trans H7.out.mb.bel.size K8.out.size,fun b hb=>(K8.out.blk b (by have:=H7.out.mb.bel.size;omega) (by omega)).trans (H7.out.mb.bel.block b hb)⟩
        have hrw:=ownsRow_setCell_below (a:=⟨w.heap.size+1+1,0,none⟩) E8.out.row (by simp only;omega) (.slice a2 (keepsF m last 65 kk).length c2)
        exact ⟨_,rfl,hrw.mono (by omega),hbel.setCell (p:=⟨w.heap.size+1+1,0,none⟩) (by simp only;omega) _⟩
   · have hE:=Lib.hid ((HDk.out false (by { have:(x.kd == 8 || x.kd == 9)=false:=by { simp;omega };rw [this];rfl })).1 rfl)
     have f8:((x.kd:Int) != 8)=true:=by simp only [bne_iff_ne,ne_eq];omega
     have f9:((x.kd:Int) != 9)=true:=by simp only [bne_iff_ne,ne_eq];omega
     have c6:=H7.out.c6
     have f6:=H7.out.f6
     clear HDk HRg hkd d8 d10 c12
     go_wp2_with fail
     have e7:=World.cell?_setCell_same w6 _ (.slice none 0 0) c6
     refine bodyPost_ret (v:=.tuple #[.slice none 0 0,.bool false]) (by simp [results,Tryz.results64,go_sem,e7]) rfl ?_
     unfold EndsP
     rw [hE.out]
     exact ⟨_,rfl,World.ownsRow_nil _ _ _ _,H7.out.mb.bel.setCell (p:=⟨w.heap.size+1+1,0,none⟩) (by simp only;omega) _⟩
end Go.Proofs
