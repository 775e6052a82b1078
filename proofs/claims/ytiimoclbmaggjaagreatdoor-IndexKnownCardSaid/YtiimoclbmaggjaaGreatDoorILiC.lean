/- Walks: law 16's 'count' and 'apart'. -/
import Derived.Test.YtiimoclbmaggjaaGreatDoorILiA
namespace Go.Proofs
open Go.RowKit Go.Lx Go.Md Go.Shelf Go.BigFrame
set_option linter.unusedVariables false
def add1 (H:List Int) (x:Int):List Int:=if 0≤x∧x<H.length then H.set x.toNat (H.getD x.toNat 0+1) else H
theorem addL_step (H L:List Int) {i:Nat} (h:i<L.length):addL H (L.take (i+1))=add1 (addL H (L.take i)) L[i]:=by
 rw [List.take_succ_eq_append_getElem h]
 unfold addL
 rw [List.foldl_append];rfl
theorem ownsRow_cap {N T n c:Nat} {a:Option Addr} {w:World} {xs:List Value} (h:w.ownsRow N T 1 (.slice a n c) n xs):n≤c:=by
 rcases h.2 with ⟨e,h0⟩ | ⟨g',c',_,e,_,_,hc,_⟩
 · omega
 · simp only [Value.slice.injEq] at e;omega
set_option maxRecDepth 100000 in
set_option maxHeartbeats 4000000 in
theorem count16_any (H L:List Int) (a:Option Addr) (c:Nat) (lv:Value) (N M:Nat) (w:World) (ho:w.ownsRow N 3 1 (.slice a H.length c) H.length (nums H)) (hM:∀ g,a=some ⟨g,0,none⟩→g<M) (hr:w.ownsRow M 3 1 lv L.length (nums L)) (hH:H.length≤1000) (hL:L.length≤1000) (hB:∀ x ∈ H,0≤x∧x≤1000000) (hN:N≤w.heap.size) :
   Calls Tryz.prog 90 #[.slice a H.length c,lv] w fun e w'=>e=.returned (.slice a H.length c)∧w'.ownsRow N 3 1 (.slice a H.length c) H.length (nums (addL H L))∧Below N w w':=by
 obtain ⟨a2,c2,rfl⟩:=ownsRow_slice hr
 have HM:=Lib.hid hM
 have HB:=Lib.hid hB
 obtain ⟨n1,hn1⟩:∃ n,H.length=n:=⟨_,rfl⟩
 obtain ⟨n2,hn2⟩:∃ n,L.length=n:=⟨_,rfl⟩
 have HN1:=Lib.hid hn1
 have HN2:=Lib.hid hn2
 have HO:Hid (w.ownsRow N 3 1 (.slice a n1 c) n1 (nums (addL H (L.take 0)))):=Lib.hid (by rw [← hn1];exact ho)
 have HR:Hid (w.ownsRow M 3 1 (.slice a2 n2 c2) n2 (nums L)):=Lib.hid (by rw [← hn2];exact hr)
 rw [hn1] at hH
 rw [hn2] at hL
 rw [hn1,hn2]
 clear ho hr hM hB hn1 hn2 hN
 go_enter Tryz.func90,Tryz.ntmps90
 go_wp2_with fail
 go_loopw [5] (fun i wr=>∃ k:Nat,k≤n2∧i=.int .i64 k∧Below N w wr∧wr.ownsRow N 3 1 (.slice a n1 c) n1 (nums (addL H (L.take k)))∧wr.ownsRow M 3 1 (.slice a2 n2 c2) n2 (nums L)) (fun i _=>n2 - (intOf i).toNat)
 case atStart=>exact ⟨0,by omega,rfl,Below.refl _ _,HO.out,HR.out⟩
 case round =>
  obtain ⟨wo,rfl⟩:∃ wo:World,wo=wr:=⟨_,rfl⟩
  obtain ⟨i,hi,rfl,hb,h1,h2⟩:=hrel
  have HBb:=Lib.hid hb
  have HO1:=Lib.hid h1
  have HR1:=Lib.hid h2
  clear hb h1 h2 HO HR
  by_cases hlt:i<n2
  · have hI:(i:Int)<(n2:Int):=by omega
    have hI0:(0:Int)≤(i:Int):=by omega
    have hil:i<L.length:=by rw [HN2.out];exact hlt
    obtain ⟨b2,c2',e⟩:=ownsRow_pos HR1.out (by omega)
    simp only [Value.slice.injEq,true_and] at e
    obtain ⟨rfl,rfl⟩:=e
    have hcap2:=ownsRow_cap HR1.out
    have hc2:wo.cell? ⟨b2,i,none⟩=some (.int .i64 L[i]):=(HR1.out.cellAt i (by omega)).trans (by simp [nums,hil])
    have HS:=Lib.hid (addL_step H L hil)
    obtain ⟨y,hy⟩:∃ y,L[i]=y:=⟨_,rfl⟩
    rw [hy] at hc2 HS
    clear hy
    have hlen:Hid ((addL H (L.take i)).length=n1):=Lib.hid (by rw [addL_len,HN1.out])
    by_cases h0:0≤y
    · by_cases h1:y<(n1:Int)
      · obtain ⟨k,rfl⟩:=Int.eq_ofNat_of_zero_le h0
        have hk:k<n1:=by omega
        obtain ⟨g,c',e⟩:=ownsRow_pos HO1.out (by omega)
        simp only [Value.slice.injEq,true_and] at e
        obtain ⟨rfl,rfl⟩:=e
        have hcap:=ownsRow_cap HO1.out
        have hg:=(HO1.out.lt g rfl).1
        have hg2:=(HO1.out.lt g rfl).2
        obtain ⟨x,hx⟩:∃ x,(addL H (L.take i))[k]? = some x:=⟨_,List.getElem?_eq_getElem (by rw [hlen.out];omega)⟩
        have hc:wo.cell? ⟨g,k,none⟩=some (.int .i64 x):=(HO1.out.cellAt k (by omega)).trans (by simp [nums,hx])
        have hf:=HO1.out.frozenAt k
        have hxb:0≤x∧x≤1001000:=by
          have e1:(addL H (L.take i)).getD k 0=x:=by rw [List.getD_eq_getElem?_getD,hx];rfl
          rw [addL_at _ _ _ (by rw [HN1.out];exact hk)] at e1
          have e2:=HB.out (H.getD k 0) (by rw [List.getD_eq_getElem?_getD,List.getElem?_eq_getElem (by rw [HN1.out];exact hk)];exact List.getElem_mem _)
          have e3:(L.take i).count (k:Int)≤i:=by
            have:=List.count_le_length (a:=(k:Int)) (l:=L.take i)
            rw [List.length_take] at this;omega
          omega
        have hwr:IntKind.i64.wrap (x+1)=x+1:=IntWalk.i64_in _ (by omega)
        have HFin:Hid (Below N w (wo.setCell ⟨g,k,none⟩ (.int .i64 (x+1)))∧(wo.setCell ⟨g,k,none⟩ (.int .i64 (x+1))).ownsRow N 3 1 (.slice (some ⟨g,0,none⟩) n1 c) n1 (nums (addL H (L.take (i+1))))∧(wo.setCell ⟨g,k,none⟩ (.int .i64 (x+1))).ownsRow M 3 1 (.slice (some ⟨b2,0,none⟩) n2 c2) n2 (nums L)):=Lib.hid (by
          refine ⟨HBb.out.setCell (p:=⟨g,k,none⟩) (by simp only;omega) _,?_,ownsRow_setCell_below (a:=⟨g,k,none⟩) HR1.out (HM.out g rfl) _⟩
          have e:nums (addL H (L.take (i+1)))=(nums (addL H (L.take i))).set k (.int .i64 (x+1)):=by
            rw [HS.out]
            unfold add1
            rw [if_pos ⟨by omega,by rw [hlen.out];omega⟩,Int.toNat_natCast,List.getD_eq_getElem?_getD,hx]
            simp [nums,List.map_set]
          rw [e]
          exact (HO1.out.stored k (.int .i64 (x+1))).1)
        clear hg hx hlen HS HO1 HR1 HBb
        go_wp2_with fail
        go_roundw
        case rel=>exact ⟨i+1,by omega,by go_num,HFin.out⟩
        case measure=>simp [intOf] <;> omega
      · have HE:Hid (addL H (L.take (i+1))=addL H (L.take i)):=Lib.hid (by rw [HS.out];unfold add1;rw [if_neg (by rw [hlen.out];omega)])
        clear HS hlen
        go_wp2_with fail
        go_roundw
        case rel=>exact ⟨i+1,by omega,by go_num,HBb.out,by rw [HE.out];exact HO1.out,HR1.out⟩
        case measure=>simp [intOf] <;> omega
    · have HE:Hid (addL H (L.take (i+1))=addL H (L.take i)):=Lib.hid (by rw [HS.out];unfold add1;rw [if_neg (fun h=>h0 h.1)])
      clear HS hlen
      go_wp2_with fail
      go_roundw
      case rel=>exact ⟨i+1,by omega,by go_num,HBb.out,by rw [HE.out];exact HO1.out,HR1.out⟩
      case measure=>simp [intOf] <;> omega
  · have hI:¬ ((i:Int)<(n2:Int)):=by omega
    have HEnd:Hid (L.take i=L):=Lib.hid (List.take_of_length_le (by rw [HN2.out];omega))
    go_wp2_with fail
    go_ret
    exact ⟨rfl,by have:=HO1.out;rw [HEnd.out] at this;exact this,HBb.out⟩
structure Ap (m:MdlD) (p:Ph) (IB H:Nat) (w wx:World):Prop where
 mb:Mb m p H w wx
 idx:IdxAt 0 m IB wx
theorem Ap.below {m:MdlD} {p:Ph} {IB H:Nat} {w wx wy:World} (h:Ap m p IB H w wx) (g:Below wx.heap.size wx wy):Ap m p IB H w wy:=⟨h.mb.below g,h.idx.grown g⟩
set_option maxRecDepth 100000 in
set_option maxHeartbeats 8000000 in
theorem apart_any {Q:Nat→BP} {B:Nat} (m:MdlD) (p:Ph) (IB a b:Nat) (w:World) (h:Mod Q w m p) (hi:IdxAt B m IB w) (h0:riM m=(0,0,0)) (ha:a<m.vers.length) (hb:b<m.vers.length) (hne:a≠b) (hv:m.vers.length≤1000) :
   Calls Tryz.prog 91 #[.pointer (some ⟨IB,0,none⟩),mdV m p,.int .i64 a,.int .i64 b] w fun e w'=>e=.returned (.bool true)∧Below w.heap.size w w':=by
 have HB:Hid (Ap m p IB w.heap.size w _):=Lib.hid ⟨Mb.made h,(hi.low (Nat.zero_le _)).grown (below_al1 w _)⟩
 have HU:=Lib.hid (fun wx (g:Ap m p IB w.heap.size w wx) (x y:Int)=>iunder_any g.idx x y h0)
 have HOr:=Lib.hid (fun wx (g:Ap m p IB w.heap.size w wx) (x y:Int)=>orth_any g.idx x y h0)
 have HC:=Lib.hid (fun wx (g:Ap m p IB w.heap.size w wx)=>common_any g.idx (a:Int) (b:Int) (.slice none 0 0) [] (by simp) (.inl ⟨none,0,rfl,rfl⟩) h0)
 have HK:=Lib.hid (fun wx (g:Ap m p IB w.heap.size w wx) (r:Int)=>(kids_any g.idx r (by omega)).mono (fun e w' (q:RowP (kidsR m r) wx e w')=>(show RowP (kidsM m r) wx e w' by rw [← kidsR_eq h0];exact q)))
 have HL:=Lib.hid (fun r:Int=>(show (kidsM m r).length≤1000 by have:=sel_len (isKid r) m.vers;have e:(kidsM m r).length≤m.vers.length:=this;omega))
 have HOA:=Lib.hid (fun (ho:orthM m a b=true)=>orth_apart h0 ha hb ho)
 have HOK:=Lib.hid (fun ho h1 h2=>apart_ok h0 ha hb hne ho h1 h2)
 have HU1:=Lib.hid (fun wx (g:Ap m p IB w.heap.size w wx)=>HU.out wx g a b)
 have HU2:=Lib.hid (fun wx (g:Ap m p IB w.heap.size w wx)=>HU.out wx g b a)
 have HO1:=Lib.hid (fun wx (g:Ap m p IB w.heap.size w wx)=>HOr.out wx g a b)
 have HO2:=Lib.hid (fun wx (g:Ap m p IB w.heap.size w wx)=>HOr.out wx g b a)
 have HV:=Lib.hid (fun wx (g:Ap m p IB w.heap.size w wx)=>(show ∃ b2 o2,p.a4=some ⟨b2,o2,none⟩∧wx.cell? ⟨b2,o2+a * 8+3,none⟩=some (.int .i64 m.vers[a].ofv)∧wx.cell? ⟨b2,o2+b * 8+3,none⟩=some (.int .i64 m.vers[b].ofv) by
   obtain ⟨b2,o2,e,_,dv,_,_,_,_,r3,_⟩:=g.mb.mod.vers.get ha
   obtain ⟨b2',o2',e',_,dv',_,_,_,_,r3',_⟩:=g.mb.mod.vers.get hb
   rw [e] at e'
   simp only [Option.some.injEq,Addr.mk.injEq,and_true] at e'
   obtain ⟨rfl,rfl⟩:=e'
   exact ⟨_,_,e,r3,r3'⟩))
 have hcap:=h.vers.cap (by omega)
 have ha0:(0:Int)≤(a:Int):=by omega
 have hb0:(0:Int)≤(b:Int):=by omega
 have haI:(a:Int)<(m.vers.length:Int):=by omega
 have hbI:(b:Int)<(m.vers.length:Int):=by omega
 unfold mdV
 generalize commonM m a [(b:Int)]=cm at HC HOK
 obtain ⟨oa,hoa⟩:∃ x,x=m.vers[a].ofv:=⟨_,rfl⟩
 obtain ⟨ob,hob⟩:∃ x,x=m.vers[b].ofv:=⟨_,rfl⟩
 rw [← hoa,← hob] at HV HOK
 obtain ⟨u1,hu1⟩:∃ x,underM m a b=x:=⟨_,rfl⟩
 obtain ⟨u2,hu2⟩:∃ x,underM m b a=x:=⟨_,rfl⟩
 obtain ⟨o1,ho1⟩:∃ x,orthM m a b=x:=⟨_,rfl⟩
 rw [hu1] at HU1 HOA HOK
 rw [hu2] at HU2 HOA HOK
 rw [ho1] at HO1 HOA HOK
 clear h hi h0 ha hb hne hv hoa hob hu1 hu2 ho1 HOr
 go_enter Tryz.func91,Tryz.ntmps91
 cases o1
 · cases u1
   · cases u2
     · have HEnd:=Lib.hid (HOK.out rfl rfl rfl)
       have HLc:=HL.out cm
       clear HOA HOK
       obtain ⟨x0,x1,x2,x3,x4,x5,_⟩:=HB.out.mb.box
       go_wp2_with fail
       (with_reducible refine (HU1.out _ HB.out).mono ?_)
       rintro e w1 ⟨rfl,g1⟩
       have HB1:=Lib.hid (HB.out.below g1)
       clear g1 HB
       go_wp2_with fail
       (with_reducible refine (HU2.out _ HB1.out).mono ?_)
       rintro e w2 ⟨rfl,g2⟩
       have HB2:=Lib.hid (HB1.out.below g2)
       clear g2 HB1
       go_wp2_with fail
       (with_reducible refine (HO1.out _ HB2.out).mono ?_)
       rintro e w3 ⟨rfl,g3⟩
       have HB3:=Lib.hid (HB2.out.below g3)
       clear g3 HB2
       go_wp2_with fail
       (with_reducible refine (HC.out _ HB3.out).mono ?_)
       rintro e w4 ⟨rfl,g4⟩
       have HB4:=Lib.hid (HB3.out.below g4)
       clear g4 HB3
       go_wp2_with fail
       (with_reducible refine (HK.out _ HB4.out cm).mono ?_)
       rintro e w5 ⟨v11,rfl,o11,g5⟩
       have HB5:=Lib.hid (HB4.out.below g5)
       obtain ⟨a11,c11,rfl⟩:=ownsRow_slice o11
       have R11:=Lib.hid (RowIn.own o11)
       clear g5 HB4 o11 HC HK x0 x1 x2 x3 x4 x5
       generalize kidsM m cm=K at *
       obtain ⟨n,hn⟩:∃ n,K.length=n:=⟨_,rfl⟩
       have HN:=Lib.hid hn
       rw [hn] at R11 HLc ⊢
       clear hn
       go_wp2_with fail
       go_loopw [10,12] (fun q i wr=>∃ k j:Nat,k≤n∧i=.int .i64 k∧q=.int .i64 j∧j=(K.take k).countP (meets m a b)∧Ap m p IB w.heap.size w wr∧Below w5.heap.size w5 wr) (fun _ i _=>n - (intOf i).toNat)
       case atStart=>exact ⟨0,0,by omega,rfl,rfl,by simp,HB5.out,Below.refl _ _⟩
       case round =>
        obtain ⟨wo,rfl⟩:∃ wo:World,wo=wr:=⟨_,rfl⟩
        obtain ⟨i,j,hi,rfl,rfl,hj,hb,hg⟩:=hrel
        have HJ:=Lib.hid hj
        have HB6:=Lib.hid hb
        have HG6:=Lib.hid hg
        have hjn:j≤1000:=by
          have e:=List.countP_le_length (p:=meets m a b) (l:=K.take i)
          rw [List.length_take] at e
          omega
        clear hb hg hj HB5
        by_cases hlt:i<n
        · have hI:(i:Int)<(n:Int):=by omega
          have hI0:(0:Int)≤(i:Int):=by omega
          have hil:i<K.length:=by rw [HN.out];exact hlt
          obtain ⟨a',c',e,_,q⟩:=(R11.out.below HG6.out).len
          obtain ⟨b8,o8,ea8,hbl8,hcl8⟩:=q i hil
          simp only [Value.slice.injEq] at e
          obtain ⟨rfl,e',rfl⟩:=e
          clear e'
          subst ea8
          have hcapK:n≤c11:=by
            rcases R11.out with ⟨_,_,e,_⟩ | ⟨_,_,_,e,h,_⟩
            · simp only [Value.slice.injEq] at e;omega
            · simp only [Value.slice.injEq] at e;rw [HN.out] at h;omega
          have hsz:b8<wo.heap.size:=by assumption
          have HCK:=Lib.hid (fun wx (g:Below wo.heap.size wo wx)=>(g.cell (p:=⟨b8,o8+i,none⟩) hsz).trans hcl8)
          have HS:Hid ((K.take (i+1)).countP (meets m a b)=j+if meets m a b K[i] then 1 else 0):=Lib.hid (by
            rw [List.take_succ_eq_append_getElem hil,List.countP_append,← HJ.out,List.countP_singleton])
          obtain ⟨x,hx⟩:∃ x,K[i]=x:=⟨_,rfl⟩
          rw [hx] at hcl8 HS HCK
          have HUa:=Lib.hid (fun wx g=>HU.out wx g a x)
          have HUb:=Lib.hid (fun wx g=>HU.out wx g b x)
          clear q hx hil
          have hwr:IntKind.i64.wrap ((j:Int)+1)=(j:Int)+1:=IntWalk.i64_in _ (by omega)
          unfold meets at HS
          by_cases e1:x=(a:Int)
          · have d1:(x == (a:Int))=true:=by simpa using e1
            have HJ1:Hid (j+1=(K.take (i+1)).countP (meets m a b)):=Lib.hid (by have:=HS.out;rw [d1] at this;exact this.symm)
            clear HS
            go_wp2_with fail
            go_roundw
            case rel=>exact ⟨i+1,j+1,by omega,by go_num,by go_num,HJ1.out,HB6.out,HG6.out⟩
            case measure=>simp [intOf] <;> omega
          have d1:(x == (a:Int))=false:=by simpa using e1
          by_cases e2:x=(b:Int)
          · have d2:(x == (b:Int))=true:=by simpa using e2
            have HJ1:Hid (j+1=(K.take (i+1)).countP (meets m a b)):=Lib.hid (by have:=HS.out;rw [d1,d2] at this;exact this.symm)
            clear HS
            go_wp2_with fail
            go_roundw
            case rel=>exact ⟨i+1,j+1,by omega,by go_num,by go_num,HJ1.out,HB6.out,HG6.out⟩
            case measure=>simp [intOf] <;> omega
          have d2:(x == (b:Int))=false:=by simpa using e2
          rw [d1,d2] at HS
          clear e1 e2
          cases hu:underM m a x with
          | true =>
           rw [hu] at HUa HS
           have HJ1:Hid (j+1=(K.take (i+1)).countP (meets m a b)):=Lib.hid HS.out.symm
           clear HS hu
           go_wp2_with fail
           (with_reducible refine (HUa.out _ HB6.out).mono ?_)
           rintro e w7 ⟨rfl,g7⟩
           have HB7:=Lib.hid (HB6.out.below g7)
           have HG7:=Lib.hid (HG6.out.trans (g7.mono HG6.out.size))
           clear g7
           go_wp2_with fail
           go_roundw
           case rel=>exact ⟨i+1,j+1,by omega,by go_num,by go_num,HJ1.out,HB7.out,HG7.out⟩
           case measure=>simp [intOf] <;> omega
          | false =>
           rw [hu] at HUa HS
           clear hu
           cases hu:underM m b x with
           | true =>
            rw [hu] at HUb HS
            have HJ1:Hid (j+1=(K.take (i+1)).countP (meets m a b)):=Lib.hid HS.out.symm
            clear HS hu
            go_wp2_with fail
            (with_reducible refine (HUa.out _ HB6.out).mono ?_)
            rintro e w7 ⟨rfl,g7⟩
            have HB7:=Lib.hid (HB6.out.below g7)
            have HG7:=Lib.hid (HG6.out.trans (g7.mono HG6.out.size))
            have hcl9:=HCK.out _ g7
            clear g7
            go_wp2_with fail
            (with_reducible refine (HUb.out _ HB7.out).mono ?_)
            rintro e w8 ⟨rfl,g8⟩
            have HB8:=Lib.hid (HB7.out.below g8)
            have HG8:=Lib.hid (HG7.out.trans (g8.mono HG7.out.size))
            clear g8 HB7 HG7
            go_wp2_with fail
            go_roundw
            case rel=>exact ⟨i+1,j+1,by omega,by go_num,by go_num,HJ1.out,HB8.out,HG8.out⟩
            case measure=>simp [intOf] <;> omega
           | false =>
            rw [hu] at HUb HS
            have HJ1:Hid (j=(K.take (i+1)).countP (meets m a b)):=Lib.hid HS.out.symm
            clear HS hu
            go_wp2_with fail
            (with_reducible refine (HUa.out _ HB6.out).mono ?_)
            rintro e w7 ⟨rfl,g7⟩
            have HB7:=Lib.hid (HB6.out.below g7)
            have HG7:=Lib.hid (HG6.out.trans (g7.mono HG6.out.size))
            have hcl9:=HCK.out _ g7
            clear g7
            go_wp2_with fail
            (with_reducible refine (HUb.out _ HB7.out).mono ?_)
            rintro e w8 ⟨rfl,g8⟩
            have HB8:=Lib.hid (HB7.out.below g8)
            have HG8:=Lib.hid (HG7.out.trans (g8.mono HG7.out.size))
            clear g8 HB7 HG7
            go_wp2_with fail
            go_roundw
            case rel=>exact ⟨i+1,j,by omega,by go_num,by go_num,HJ1.out,HB8.out,HG8.out⟩
            case measure=>simp [intOf] <;> omega
        · have hI:¬ ((i:Int)<(n:Int)):=by omega
          have hE:j=2∨((0≤oa∨0≤ob)∧j=1):=by
            have e:K.take i=K:=List.take_of_length_le (by rw [HN.out];omega)
            have h1:=HJ.out
            rw [e] at h1
            rw [h1];exact HEnd.out
          obtain ⟨x0,x1,x2,x3,x4,x5,_⟩:=HB6.out.mb.box
          obtain ⟨b2,o2,e4,r3,r3'⟩:=HV.out _ HB6.out
          rw [e4] at x4
          clear HJ HEnd e4
          rcases hE with rfl | ⟨ho,rfl⟩
          · by_cases h1:0≤oa
            · go_wp2_with fail
              go_ret
              exact ⟨rfl,HB6.out.mb.bel⟩
            · by_cases h2:0≤ob
              · go_wp2_with fail
                go_ret
                exact ⟨rfl,HB6.out.mb.bel⟩
              · go_wp2_with fail
                go_ret
                exact ⟨rfl,HB6.out.mb.bel⟩
          · by_cases h1:0≤oa
            · clear ho
              go_wp2_with fail
              go_ret
              exact ⟨rfl,HB6.out.mb.bel⟩
            · have h2:=ho.resolve_left h1
              clear ho
              go_wp2_with fail
              go_ret
              exact ⟨rfl,HB6.out.mb.bel⟩
     · clear HOA HOK HC HK HV
       go_wp2_with fail
       (with_reducible refine (HU1.out _ HB.out).mono ?_)
       rintro e w1 ⟨rfl,g1⟩
       have HB1:=Lib.hid (HB.out.below g1)
       clear g1 HB
       go_wp2_with fail
       (with_reducible refine (HU2.out _ HB1.out).mono ?_)
       rintro e w2 ⟨rfl,g2⟩
       have HB2:=Lib.hid (HB1.out.below g2)
       clear g2 HB1
       go_wp2_with fail
       (with_reducible refine (HO1.out _ HB2.out).mono ?_)
       rintro e w3 ⟨rfl,g3⟩
       have HB3:=Lib.hid (HB2.out.below g3)
       clear g3 HB2
       go_wp2_with fail
       go_ret
       exact ⟨rfl,HB3.out.mb.bel⟩
   · clear HOA HOK HC HK HV
     go_wp2_with fail
     (with_reducible refine (HU1.out _ HB.out).mono ?_)
     rintro e w1 ⟨rfl,g1⟩
     have HB1:=Lib.hid (HB.out.below g1)
     clear g1 HB
     go_wp2_with fail
     (with_reducible refine (HO1.out _ HB1.out).mono ?_)
     rintro e w3 ⟨rfl,g3⟩
     have HB3:=Lib.hid (HB1.out.below g3)
     clear g3 HB1
     go_wp2_with fail
     go_ret
     exact ⟨rfl,HB3.out.mb.bel⟩
 · obtain ⟨rfl,rfl,e2⟩:=HOA.out rfl
   rw [e2] at HO2
   clear HOA HOK HC HK HV e2
   go_wp2_with fail
   (with_reducible refine (HU1.out _ HB.out).mono ?_)
   rintro e w1 ⟨rfl,g1⟩
   have HB1:=Lib.hid (HB.out.below g1)
   clear g1 HB
   go_wp2_with fail
   (with_reducible refine (HU2.out _ HB1.out).mono ?_)
   rintro e w2 ⟨rfl,g2⟩
   have HB2:=Lib.hid (HB1.out.below g2)
   clear g2 HB1
   go_wp2_with fail
   (with_reducible refine (HO1.out _ HB2.out).mono ?_)
   rintro e w3 ⟨rfl,g3⟩
   have HB3:=Lib.hid (HB2.out.below g3)
   clear g3 HB2
   go_wp2_with fail
   (with_reducible refine (HO2.out _ HB3.out).mono ?_)
   rintro e w4 ⟨rfl,g4⟩
   have HB4:=Lib.hid (HB3.out.below g4)
   clear g4 HB3
   go_wp2_with fail
   go_ret
   exact ⟨rfl,HB4.out.mb.bel⟩
end Go.Proofs
