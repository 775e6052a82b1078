/- Walks: the document's answer for what lies in what: Kids, Points, Composite, Chain, Depth. -/
import Derived.Test.YtiimoclbmaggjaaGreatDoorLRyAB
namespace Go.Proofs
open Go.RowKit Go.Lx Go.Md Go.Shelf Go.BigFrame Go.Rgi
set_option linter.unusedVariables false
theorem Mod.ofC {Q:Nat→BP} {w:World} {m:MdlD} {p:Ph} (h:Mod Q w m p) {k:Nat} (hk:k<m.vers.length):∃ b o,p.a4=some ⟨b,o,none⟩∧b<w.heap.size∧w.cell? ⟨b,o+k * 8+2,none⟩=some (.int .i64 m.vers[k].rg)∧w.cell? ⟨b,o+k * 8+3,none⟩=some (.int .i64 m.vers[k].ofv):=by
 obtain ⟨b,o,e,hb,_,_,h0,h1,h2,h3,_⟩:=h.vers.get hk
 exact ⟨b,o,e,hb,h2,h3⟩
set_option maxRecDepth 100000 in
set_option maxHeartbeats 2000000 in
theorem rkids16_any {Q:Nat→BP} (m:MdlD) (p:Ph) (s:Int) (w:World) (h:Mod Q w m p) (hrl:m.vers.length≤100000) :
   Calls Tryz.prog 82 #[ixV m p,.int .i64 s] w (RowP (kidsM m s) w):=by
 have HB:=Lib.hid (Mb.madeT h 93)
 have HV:=Lib.hid (fun wx (g:Mb m p w.heap.size w wx) (j:Nat) (hj:j<m.vers.length)=>g.mod.ofC hj)
 have hcap:=Lib.hid (fun h0=>h.vers.cap h0)
 obtain ⟨iI,hiI,zI0,zI1,zI2⟩:=info_parts info_Num
 have HL:Hid (kidsM m s=sel (isKid s) (m.vers.take m.vers.length)):=Lib.hid (by rw [List.take_length];rfl)
 have HT:=Lib.hid (fun (k:Nat) (h:k<m.vers.length)=>sel_take (isKid s) (l:=m.vers) h)
 have HZ:=Lib.hid (sel_take0 (isKid s) m.vers)
 have HN:=Lib.hid (fun k=>sel_len (isKid s) (m.vers.take k))
 unfold ixV mdV
 clear h
 go_enter Tryz.func82,Tryz.ntmps82
 go_wp2_with fail
 go_loopw [5,6] (fun o i wr=>∃ k:Nat,k≤m.vers.length∧i=.int .i64 k∧Mb m p w.heap.size w wr∧wr.ownsRow (w.heap.size+1) 3 1 o (sel (isKid s) (m.vers.take k)).length (nums (sel (isKid s) (m.vers.take k)))) (fun _ i _=>m.vers.length - (intOf i).toNat)
 case atStart=>exact ⟨0,by omega,rfl,HB.out,by rw [HZ.out];exact World.ownsRow_nil _ _ _ _⟩
 case round =>
  obtain ⟨wo,rfl⟩:∃ wo:World,wo=wr:=⟨_,rfl⟩
  obtain ⟨k,hk,rfl,hb,ho⟩:=hrel
  have HB5:=Lib.hid hb
  have HO:=Lib.hid ho
  clear hb HB HZ ho
  obtain ⟨x0,x1,x2,x3,x4,x5,_⟩:=HB5.out.box
  by_cases hlt:k<m.vers.length
  · have hI:(k:Int)<(m.vers.length:Int):=by omega
    have hI0:(0:Int)≤(k:Int):=by omega
    obtain ⟨b1,o1,ha1,hb1,r1,r2⟩:=HV.out wo HB5.out k hlt
    have hcp:=hcap.out (by omega)
    have hS:=HT.out k hlt
    obtain ⟨x,hx⟩:∃ x,x=m.vers[k]:=⟨_,rfl⟩
    rw [← hx] at hS r1 r2
    have hln:=HN.out k
    have hln2:(sel (isKid s) (m.vers.take k)).length≤k:=by rw [List.length_take] at hln;omega
    have hz5:w.heap.size+1≤wo.heap.size:=HB5.out.box.sl
    rw [ha1] at x4
    clear HV HT HN hx hln ha1
    cases hd0:decide (x.ofv<0) with
    | false =>
     have hS2:Hid (sel (isKid s) (m.vers.take (k+1))=sel (isKid s) (m.vers.take k)):=Lib.hid (by rw [hS];unfold isKid;rw [hd0];simp)
     clear hS hcap
     go_wp2_with fail
     go_roundw
     case rel=>exact ⟨k+1,by omega,by go_num,HB5.out,by rw [hS2.out];exact HO.out⟩
     case measure=>simp [intOf] <;> omega
    | true =>
     cases hd:(x.rg == s) with
     | false =>
      have hS2:Hid (sel (isKid s) (m.vers.take (k+1))=sel (isKid s) (m.vers.take k)):=Lib.hid (by rw [hS];unfold isKid;rw [hd0,hd];simp)
      clear hS hcap
      go_wp2_with fail
      go_roundw
      case rel=>exact ⟨k+1,by omega,by go_num,HB5.out,by rw [hS2.out];exact HO.out⟩
      case measure=>simp [intOf] <;> omega
     | true =>
      have hS2:Hid (sel (isKid s) (m.vers.take (k+1))=sel (isKid s) (m.vers.take k) ++ [(k:Int)]):=Lib.hid (by rw [hS];unfold isKid;rw [hd0,hd];simp)
      clear hS hcap
      go_wp2_with (at_builtin;refine wpList_append_row _ rfl _ _ 31 rfl 3 (w.heap.size+1) iI (.int .i64 0) Tryz.underlying31 hiI zI0 zI1 zI2 rfl _ (sel (isKid s) (m.vers.take k)) rfl (HO.out.alloc _) _ [(k:Int)] rfl (row1 _ _ _) (by simp;omega) (by simp;omega) ?_;intro v4 w4 hown4 hgrow4 hnxt4)
      have HB6:=Lib.hid (HB5.out.low (push_low hz5 HO.out hgrow4))
      go_roundw
      case rel=>exact ⟨k+1,by omega,by go_num,HB6.out,by rw [hS2.out];exact hown4⟩
      case measure=>simp [intOf] <;> omega
  · obtain rfl:k=m.vers.length:=by omega
    clear HV HT HN hcap
    rw [← HL.out] at HO
    go_wp2_with fail
    go_ret
    exact ⟨_,rfl,HO.out.mono (by omega),HB5.out.bel⟩
theorem below_chain' {w a b:World} (h:Below w.heap.size w a) (g:Below a.heap.size a b):Below w.heap.size w b:=h.trans (g.mono h.size)
theorem RowIn.front {w:World} {a:Option Addr} {n c j:Nat} {l:List Int} (h:RowIn w (.slice a n c) l) (hj:j≤l.length):RowIn w (.slice a j c) (l.take j):=by
 rcases h with ⟨a',c',e,rfl⟩ | ⟨b,off,c',e,h0,h1,h3⟩
 · simp only [Value.slice.injEq] at e
   obtain ⟨rfl,_,rfl⟩:=e
   have:j=0:=by simpa using hj
   subst this
   exact .inl ⟨_,_,rfl,rfl⟩
 · simp only [Value.slice.injEq] at e
   obtain ⟨rfl,_,rfl⟩:=e
   have hl:(l.take j).length=j:=List.length_take_of_le hj
   refine .inr ⟨b,off,c,by rw [hl],by rw [hl];omega,h1,fun i u hi=>h3 i u ?_⟩
   simp only [nums,List.getElem?_map] at hi ⊢
   rw [List.getElem?_take] at hi
   split at hi
   · exact hi
   · cases hi
theorem RowIn.back {w:World} {b off n c j:Nat} {l:List Int} (h:RowIn w (.slice (some ⟨b,off,none⟩) n c) l) (hj:j<l.length):RowIn w (.slice (some ⟨b,off+j,none⟩) (l.length - j) (c - j)) (l.drop j):=by
 rcases h with ⟨a',c',e,rfl⟩ | ⟨b',off',c',e,h0,h1,h3⟩
 · simp at hj
 · simp only [Value.slice.injEq,Option.some.injEq,Addr.mk.injEq,and_true] at e
   obtain ⟨⟨rfl,rfl⟩,_,rfl⟩:=e
   refine .inr ⟨b,off+j,c - j,by rw [List.length_drop],by rw [List.length_drop];omega,h1,fun i u hi=>?_⟩
   simp only [nums,List.getElem?_map,List.getElem?_drop] at hi
   have:=h3 (j+i) u (by simp only [nums,List.getElem?_map];exact hi)
   rw [addr_add] at this ⊢
   rw [Nat.add_assoc];exact this
theorem RowIn.nil0 {w:World} (a:Option Addr) (c:Nat):RowIn w (.slice a 0 c) []:=.inl ⟨a,c,rfl,rfl⟩
theorem chainF_len (m:MdlD) (v:Int) (k:Nat):(chainF m v k).length≤k:=by
 have hi:∀ (s:Int) (l:List Int),(insC m s l).length=l.length+1:=by
   intro s l
   induction l with
   | nil=>rfl
   | cons o t ih =>
    unfold insC
    split
    · simp [ih]
    · simp
 induction k with
 | zero=>simp [chainF]
 | succ k ih =>
  rw [chainF_succ]
  split
  · rw [hi];omega
  · omega
set_option maxRecDepth 100000 in
set_option maxHeartbeats 8000000 in
theorem rchain16_any {Q:Nat→BP} (m:MdlD) (p:Ph) (v:Int) (w:World) (h:Mod Q w m p) (h0:riM m=(0,0,0)) (hvl:m.vers.length≤1000) (hrl:m.regs.length≤100000) :
   Calls Tryz.prog 86 #[ixV m p,.int .i64 v] w (RowP (chainM m v) w):=by
 have HB:=Lib.hid (Mb.madeT h 93)
 have HU:=Lib.hid (fun wx (g:Mb m p w.heap.size w wx) (a b:Int)=>runder16_any m p a b wx g.mod h0 (by omega) (by omega))
 have HE:Hid (chainM m v=chainF m v m.vers.length):=Lib.hid (chain_eq h0 v).symm
 have HS:=Lib.hid (fun k=>chainF_succ m v k)
 have HN:=Lib.hid (fun k=>chainF_len m v k)
 obtain ⟨iI,hiI,zI0,zI1,zI2⟩:=info_parts info_Num
 unfold ixV mdV at HU ⊢
 clear h h0
 go_enter Tryz.func86,Tryz.ntmps86
 go_wp2_with fail
 go_loopw [5,6] (fun o i wr=>∃ k:Nat,k≤m.vers.length∧i=.int .i64 k∧Mb m p w.heap.size w wr∧wr.ownsRow (w.heap.size+1) 3 1 o (chainF m v k).length (nums (chainF m v k))) (fun _ i _=>m.vers.length - (intOf i).toNat)
 case atStart=>exact ⟨0,by omega,rfl,HB.out,World.ownsRow_nil _ _ _ _⟩
 case round =>
  obtain ⟨wo,rfl⟩:∃ wo:World,wo=wr:=⟨_,rfl⟩
  obtain ⟨k,hk,rfl,hb,ho⟩:=hrel
  have HB5:=Lib.hid hb
  obtain ⟨a5,c5,rfl⟩:=ownsRow_slice ho
  have HO:=Lib.hid ho
  clear hb HB ho
  obtain ⟨x0,x1,x2,x3,x4,x5,_⟩:=HB5.out.box
  by_cases hlt:k<m.vers.length
  · have hI:(k:Int)<(m.vers.length:Int):=by omega
    have hI0:(0:Int)≤(k:Int):=by omega
    have hSk:=HS.out k
    have hnk:=HN.out k
    have HUk:=Lib.hid (HU.out wo HB5.out v k)
    have hcap:(chainF m v k).length≤c5:=by
      rcases HO.out.2 with ⟨e,h0⟩ | ⟨g',c',_,e,_,_,hc,_⟩
      · simp only [Value.slice.injEq] at e;omega
      · simp only [Value.slice.injEq] at e;omega
    generalize chainF m v k=C at HO hSk hnk hcap ⊢
    cases hu:underM m v k with
    | false =>
     rw [hu] at HUk
     have hS2:Hid (chainF m v (k+1)=C):=Lib.hid (by rw [hSk,hu];rfl)
     clear hSk hu
     go_wp2_with fail
     (with_reducible refine (HUk.out).mono ?_)
     rintro e w2 ⟨rfl,g2⟩
     go_wp2_with fail
     go_roundw
     case rel=>exact ⟨k+1,by omega,by go_num,HB5.out.below g2,by rw [hS2.out];exact ownsRow_keep HO.out g2⟩
     case measure=>simp [intOf] <;> omega
    | true =>
     rw [hu] at HUk
     have hS2:Hid (chainF m v (k+1)=insC m k C):=Lib.hid (by rw [hSk,hu];rfl)
     clear hSk hu
     obtain ⟨n,hn⟩:∃ n,C.length=n:=⟨_,rfl⟩
     have HNn:=Lib.hid hn
     rw [hn] at hnk hcap ⊢
     clear hn
     go_wp2_with fail
     (with_reducible refine (HUk.out).mono ?_)
     rintro e w2 ⟨rfl,g2⟩
     have HB2:=Lib.hid (HB5.out.below g2)
     have HO2:=Lib.hid (ownsRow_keep HO.out g2)
     have HR2:Hid (RowIn w2 (.slice a5 n c5) C):=Lib.hid (by have:=RowIn.own HO2.out;rw [HNn.out] at this;exact this)
     clear g2 HUk x0 x1 x2 x3 x4 x5 HB5 HO
     go_wp2_with fail
     go_loopw [7] (fun a wr=>∃ j:Nat,j≤n∧a=.int .i64 j∧Below w2.heap.size w2 wr∧∀ i (h:i<C.length),i<j→underM m k C[i]=true) (fun a _=>n - (intOf a).toNat)
     case atStart=>exact ⟨0,by omega,rfl,Below.refl _ _,fun i _ hi=>by omega⟩
     case round =>
      obtain ⟨wp,rfl⟩:∃ wp:World,wp=wr:=⟨_,rfl⟩
      obtain ⟨j,hj,rfl,hb,hno⟩:=hrel
      have HBp:=Lib.hid hb
      have HNo:=Lib.hid hno
      clear hb hno
      have hEnd:Hid ((∀ (h:j<C.length),underM m k C[j]=false)→insC m k C=C.take j ++ (k:Int) :: C.drop j):=Lib.hid (fun hn=>insC_end (by rw [HNn.out];exact hj) HNo.out hn)
      have hTail:Hid (∀ wq:World,Below w2.heap.size w2 wq→RowIn wq (.slice a5 j c5) (C.take j)):=Lib.hid (fun wq g=>(HR2.out.below g).front (by rw [HNn.out];exact hj))
      by_cases hjlt:j<n
      · have hjI:(j:Int)<(n:Int):=by omega
        have hj0:(0:Int)≤(j:Int):=by omega
        have hjl:j<C.length:=by rw [HNn.out];exact hjlt
        obtain ⟨a',c',e,_,q⟩:=HR2.out.len
        obtain ⟨b5,o5,ea,hbl,hcl⟩:=q j hjl
        simp only [Value.slice.injEq] at e
        obtain ⟨rfl,e',rfl⟩:=e
        clear e'
        subst ea
        have HUj:=Lib.hid (fun wx (g:Below w2.heap.size w2 wx)=>HU.out wx (HB2.out.below g) k C[j])
        have hStep:Hid (underM m k C[j]=true→∀ i (h:i<C.length),i<j+1→underM m k C[i]=true):=Lib.hid (fun ht i hi hij=>by
          by_cases e:i=j
          · subst e;exact ht
          · exact HNo.out i hi (by omega))
        have hEnd2:=Lib.hid (fun (hf:underM m k C[j]=false)=>hEnd.out (fun _=>hf))
        obtain ⟨z,hz⟩:∃ z,C[j]=z:=⟨_,rfl⟩
        rw [hz] at hcl HUj hStep hEnd2
        have HS7:Hid (∀ W',Below w2.heap.size w2 W'→W'.cell? ⟨w.heap.size,0,none⟩=some (.string m.nm)∧W'.cell? ⟨w.heap.size,1,none⟩=some (.slice p.a1 m.vars.length p.c1)∧W'.cell? ⟨w.heap.size,2,none⟩=some (.slice p.a2 m.evs.length p.c2)∧W'.cell? ⟨w.heap.size,3,none⟩=some (.slice p.a3 m.regs.length p.c3)∧W'.cell? ⟨w.heap.size,4,none⟩=some (.slice p.a4 m.vers.length p.c4)∧W'.cell? ⟨w.heap.size,5,none⟩=some (.slice p.a5 m.trns.length p.c5)∧W'.cell? ⟨b5,o5+j,none⟩=some (.int .i64 z)):=fun W' g=>by
          obtain ⟨x0,x1,x2,x3,x4,x5,_⟩:=(HB2.out.below g).box
          exact ⟨x0,x1,x2,x3,x4,x5,(g.cell (p:=⟨b5,o5+j,none⟩) hbl).trans hcl⟩
        clear hEnd hz q hcl HU
        cases hu:underM m k z with
        | true =>
         have hNx:=Lib.hid (hStep.out hu)
         rw [hu] at HUj
         clear hu hStep hEnd2 hTail hS2
         go_wp2_with fail
         refine wp_region_any (by kernel_rfl) ?_
         change wpAny _ _ _ _ _ _ _ (World.drew _)
         refine wpAny_of_heldS (S:=(fun W'=>W'.cell? ⟨w.heap.size,0,none⟩=some (.string m.nm)∧W'.cell? ⟨w.heap.size,1,none⟩=some (.slice p.a1 m.vars.length p.c1)∧W'.cell? ⟨w.heap.size,2,none⟩=some (.slice p.a2 m.evs.length p.c2)∧W'.cell? ⟨w.heap.size,3,none⟩=some (.slice p.a3 m.regs.length p.c3)∧W'.cell? ⟨w.heap.size,4,none⟩=some (.slice p.a4 m.vers.length p.c4)∧W'.cell? ⟨w.heap.size,5,none⟩=some (.slice p.a5 m.trns.length p.c5)∧W'.cell? ⟨b5,o5+j,none⟩=some (.int .i64 z))) ?_ (fun hHeld=>?_)
         · (try dsimp only) <;> (first | exact HS7.out _ (by assumption) | exact HS7.out _ HBp.out.drew)
         refine tk 0 rfl ?_
         try simp only [Act.put,lyA,lyZ,lyS]
         refine tk 1 rfl ?_
         try simp only [Act.put,lyA,lyZ,lyS]
         refine tk 2 rfl ?_
         try simp only [Act.put,lyA,lyZ,lyS]
         refine tk 3 rfl ?_
         try simp only [Act.put,lyA,lyZ,lyS]
         refine tk 4 rfl ?_
         try simp only [Act.put,lyA,lyZ,lyS]
         refine tk 5 rfl ?_
         try simp only [Act.put,lyA,lyZ,lyS]
         refine tk 6 rfl ?_
         try simp only [Act.put,lyA,lyZ,lyS]
         refine tk 7 rfl ?_
         try simp only [Act.put,lyA,lyZ,lyS]
         refine tk 8 rfl ?_
         try simp only [Act.put,lyA,lyZ,lyS]
         refine tk 9 rfl ?_
         try simp only [Act.put,lyA,lyZ,lyS]
         refine tk 10 rfl ?_
         try simp only [Act.put,lyA,lyZ,lyS]
         refine rdy [11] ?_
         refine rdC rfl (fun K hK=>?_) ?_
         (go_simp;(with_reducible refine (HUj.out _ HBp.out.drew).mono ?_);rintro e w3 ⟨rfl,hb3⟩;have hB3:Below w2.heap.size w2 w3:=below_chain' HBp.out.drew hb3;go_wp2_with fail)
         refine hK.out _ _ ?_ (fun hH1=>?_)
         · (try dsimp only) <;> (first | exact HS7.out _ (by assumption) | exact HS7.out _ HBp.out.drew)
         clear hK K hHeld
         try simp only [Act.put,lyA,lyZ,lyS]
         refine tk 12 rfl ?_
         try simp only [Act.put,lyA,lyZ,lyS]
         refine wpAnyH_done (by kernel_rfl) ?_ _
         rotate_left
         exact AllReadyH.nil
         all_goals
           go_wp2_with fail
           go_roundw
           case rel=>exact ⟨j+1,by omega,by go_num,hB3,hNx.out⟩
           case measure=>simp [intOf] <;> omega
        | false =>
         have hIns:=Lib.hid (hEnd2.out hu)
         rw [hu] at HUj
         clear hu hStep hEnd2
         go_wp2_with fail
         refine wp_region_any (by kernel_rfl) ?_
         change wpAny _ _ _ _ _ _ _ (World.drew _)
         refine wpAny_of_heldS (S:=(fun W'=>W'.cell? ⟨w.heap.size,0,none⟩=some (.string m.nm)∧W'.cell? ⟨w.heap.size,1,none⟩=some (.slice p.a1 m.vars.length p.c1)∧W'.cell? ⟨w.heap.size,2,none⟩=some (.slice p.a2 m.evs.length p.c2)∧W'.cell? ⟨w.heap.size,3,none⟩=some (.slice p.a3 m.regs.length p.c3)∧W'.cell? ⟨w.heap.size,4,none⟩=some (.slice p.a4 m.vers.length p.c4)∧W'.cell? ⟨w.heap.size,5,none⟩=some (.slice p.a5 m.trns.length p.c5)∧W'.cell? ⟨b5,o5+j,none⟩=some (.int .i64 z))) ?_ (fun hHeld=>?_)
         · (try dsimp only) <;> (first | exact HS7.out _ (by assumption) | exact HS7.out _ HBp.out.drew)
         refine tk 0 rfl ?_
         try simp only [Act.put,lyA,lyZ,lyS]
         refine tk 1 rfl ?_
         try simp only [Act.put,lyA,lyZ,lyS]
         refine tk 2 rfl ?_
         try simp only [Act.put,lyA,lyZ,lyS]
         refine tk 3 rfl ?_
         try simp only [Act.put,lyA,lyZ,lyS]
         refine tk 4 rfl ?_
         try simp only [Act.put,lyA,lyZ,lyS]
         refine tk 5 rfl ?_
         try simp only [Act.put,lyA,lyZ,lyS]
         refine tk 6 rfl ?_
         try simp only [Act.put,lyA,lyZ,lyS]
         refine tk 7 rfl ?_
         try simp only [Act.put,lyA,lyZ,lyS]
         refine tk 8 rfl ?_
         try simp only [Act.put,lyA,lyZ,lyS]
         refine tk 9 rfl ?_
         try simp only [Act.put,lyA,lyZ,lyS]
         refine tk 10 rfl ?_
         try simp only [Act.put,lyA,lyZ,lyS]
         refine rdy [11] ?_
         refine rdC rfl (fun K hK=>?_) ?_
         (go_simp;(with_reducible refine (HUj.out _ HBp.out.drew).mono ?_);rintro e w3 ⟨rfl,hb3⟩;have hB3:Below w2.heap.size w2 w3:=below_chain' HBp.out.drew hb3;go_wp2_with fail)
         refine hK.out _ _ ?_ (fun hH1=>?_)
         · (try dsimp only) <;> (first | exact HS7.out _ (by assumption) | exact HS7.out _ HBp.out.drew)
         clear hK K hHeld
         try simp only [Act.put,lyA,lyZ,lyS]
         refine tk 12 rfl ?_
         try simp only [Act.put,lyA,lyZ,lyS]
         refine wpAnyH_done (by kernel_rfl) ?_ _
         rotate_left
         exact AllReadyH.nil
         all_goals
           have HB3:=Lib.hid hB3
           have hRf:=Lib.hid (hTail.out w3 hB3)
           clear hb3 hB3 HS7 hTail
           have hjc:j≤c5:=by omega
           have hjc0:¬ (c5=j):=by omega
           have hRb:Hid (∀ wq:World,Below w3.heap.size w3 wq→RowIn wq (.slice (some ⟨b5,o5+j,none⟩) (n - j) (c5 - j)) (C.drop j)):=Lib.hid (fun wq g=>by
             have:=(HR2.out.below (below_chain' HB3.out g)).back hjl
             rw [HNn.out] at this;exact this)
           have hz3:w.heap.size+1≤w3.heap.size:=by have:=HB2.out.box.sl;have:=HB3.out.size;omega
           have hNl:Hid ((C.take j).length=j∧(C.drop j).length=n - j):=Lib.hid ⟨by rw [List.length_take];have:=HNn.out;omega,by rw [List.length_drop,HNn.out]⟩
           have hkb:n≤1000:=by omega
           clear hjc0
           go_wp2_with (first | (at_builtin;refine wpList_append_row _ rfl (.tmp 36) (.tmp 39) 31 rfl 3 w3.heap.size iI (.int .i64 0) Tryz.underlying31 hiI zI0 zI1 zI2 rfl (.slice none 0 0) [] rfl (World.ownsRow_nil _ _ _ _) (.slice (some ⟨b5,o5,none⟩) j c5) (C.take j) rfl hRf.out (by have:=hNl.out.1;simp only [List.length_nil];omega) (Nat.le_refl _) ?_;intro v4 w4 hown4 hgrow4 hnxt4;(have HB4:Hid (Below w3.heap.size w3 w4):=Lib.hid (Below.grown (Below.refl _ w3) hgrow4 (Nat.le_refl _) (fun j hj=>by cases hj)));rw [List.nil_append] at hown4;have HO4:=Lib.hid hown4;clear hown4 hgrow4 hnxt4) | (at_builtin;refine wpList_append_row _ rfl (.tmp 41) (.tmp 43) 31 rfl 3 w3.heap.size iI (.int .i64 0) Tryz.underlying31 hiI zI0 zI1 zI2 rfl v4 (C.take j) rfl (HO4.out.alloc _) _ [(k:Int)] rfl (row1 _ _ _) (by have:=hNl.out.1;simp only [List.length_cons,List.length_nil];omega) (by have:=HB4.out.size;simp;omega) ?_;intro v5 w5 hown5 hgrow5 hnxt5;(have HB5:Hid (Below w3.heap.size w3 w5):=Lib.hid (Below.grown (HB4.out.alloc HB4.out.size _) hgrow5 (by have:=HB4.out.size;simp;omega) (fun j hj=>(HO4.out.lt j hj).1)));have HO5:=Lib.hid hown5;clear hown5 hgrow5 hnxt5 HO4) | (at_builtin;refine wpList_append_row _ rfl (.tmp 45) (.tmp 48) 31 rfl 3 w3.heap.size iI (.int .i64 0) Tryz.underlying31 hiI zI0 zI1 zI2 rfl v5 (C.take j ++ [(k:Int)]) rfl HO5.out (.slice (some ⟨b5,o5+j,none⟩) (n - j) (c5 - j)) (C.drop j) rfl (hRb.out _ HB5.out) (by have:=hNl.out;simp only [List.length_append,List.length_cons,List.length_nil];omega) HB5.out.size ?_;intro v6 w6 hown6 hgrow6 hnxt6;(have HB6:Hid (Below w3.heap.size w3 w6):=Lib.hid (Below.grown HB5.out hgrow6 HB5.out.size (fun j hj=>(HO5.out.lt j hj).1)));have HO6:=Lib.hid hown6;clear hown6 hgrow6 hnxt6 HO5))
           go_roundw
           case rel=>exact ⟨k+1,by omega,by go_num,(HB2.out.below HB3.out).below HB6.out,by rw [hS2.out,hIns.out,show C.take j ++ (k:Int) :: C.drop j=C.take j ++ [(k:Int)] ++ C.drop j by simp];exact HO6.out.mono hz3⟩
           case measure=>simp [intOf] <;> omega
      · obtain rfl:j=n:=by omega
        have hjI:¬ ((j:Int)<(j:Int)):=by omega
        have hdj:decide ((j:Int)<(j:Int))=false:=by simp
        have hDn:C.drop j=[]:=List.drop_eq_nil_of_le (by have:=HNn.out;omega)
        have hIns:=Lib.hid (hEnd.out (fun h=>absurd h (by have:=HNn.out;omega)))
        have hNl:Hid ((C.take j).length=j∧(C.drop j).length=0):=Lib.hid ⟨by rw [List.length_take];have:=HNn.out;omega,by rw [hDn];rfl⟩
        have hDn':=Lib.hid hDn
        have hz3:w.heap.size+1≤wp.heap.size:=by have:=HB2.out.box.sl;have:=HBp.out.size;omega
        have hRf:=Lib.hid (fun nq=>hTail.out _ (below_drewN HBp.out nq))
        clear hEnd hTail hDn HU
        have hkb:j≤1000:=by omega
        cases a5 with
        | none =>
         have hcc:j=0∧c5=0:=by
           rcases HO2.out.2 with ⟨e,h0⟩ | ⟨g',c',_,e,_⟩
           · simp only [Value.slice.injEq] at e;exact ⟨by have:=HNn.out;omega,e.2.2⟩
           · simp at e
         obtain ⟨rfl,rfl⟩:=hcc
         clear hjI hdj hcap
         go_wp2_with fail
         go_quiet (fail)
         have hRn0:=hRf.out nq
         have HBn0:Below w2.heap.size w2 (wp.drewN nq):=below_drewN HBp.out nq
         have hz30:w.heap.size+1≤(wp.drewN nq).heap.size:=hz3
         generalize wp.drewN nq=wq at *
         have hRn:=Lib.hid hRn0
         have HBn:=Lib.hid HBn0
         have hz3:=hz30
         clear hRf hRn0 HBn0 hz30 HBp HNo
         go_wp2_with (first | (at_builtin;refine wpList_append_row _ rfl (.tmp 36) (.tmp 39) 31 rfl 3 wq.heap.size iI (.int .i64 0) Tryz.underlying31 hiI zI0 zI1 zI2 rfl (.slice none 0 0) [] rfl (World.ownsRow_nil _ _ _ _) _ (C.take 0) rfl hRn.out (by have:=hNl.out.1;simp only [List.length_nil];omega) (Nat.le_refl _) ?_;intro v4 w4 hown4 hgrow4 hnxt4;(have HB4:Hid (Below wq.heap.size wq w4):=Lib.hid (Below.grown (Below.refl _ wq) hgrow4 (Nat.le_refl _) (fun j hj=>by cases hj)));rw [List.nil_append] at hown4;have HO4:=Lib.hid hown4;clear hown4 hgrow4 hnxt4) | (at_builtin;refine wpList_append_row _ rfl (.tmp 41) (.tmp 43) 31 rfl 3 wq.heap.size iI (.int .i64 0) Tryz.underlying31 hiI zI0 zI1 zI2 rfl v4 (C.take 0) rfl (HO4.out.alloc _) _ [(k:Int)] rfl (row1 _ _ _) (by have:=hNl.out.1;simp only [List.length_cons,List.length_nil];omega) (by have:=HB4.out.size;simp;omega) ?_;intro v5 w5 hown5 hgrow5 hnxt5;(have HB5:Hid (Below wq.heap.size wq w5):=Lib.hid (Below.grown (HB4.out.alloc HB4.out.size _) hgrow5 (by have:=HB4.out.size;simp;omega) (fun j hj=>(HO4.out.lt j hj).1)));have HO5:=Lib.hid hown5;clear hown5 hgrow5 hnxt5 HO4) | (at_builtin;refine wpList_append_row _ rfl (.tmp 45) (.tmp 48) 31 rfl 3 wq.heap.size iI (.int .i64 0) Tryz.underlying31 hiI zI0 zI1 zI2 rfl v5 (C.take 0 ++ [(k:Int)]) rfl HO5.out _ (C.drop 0) rfl (by rw [hDn'.out];exact RowIn.nil0 _ _) (by have:=hNl.out;simp only [List.length_append,List.length_cons,List.length_nil];omega) HB5.out.size ?_;intro v6 w6 hown6 hgrow6 hnxt6;(have HB6:Hid (Below wq.heap.size wq w6):=Lib.hid (Below.grown HB5.out hgrow6 HB5.out.size (fun j hj=>(HO5.out.lt j hj).1)));have HO6:=Lib.hid hown6;clear hown6 hgrow6 hnxt6 HO5))
         go_roundw
         case rel=>exact ⟨k+1,by omega,by go_num,(HB2.out.below HBn.out).below HB6.out,by rw [hS2.out,hIns.out,show C.take 0 ++ (k:Int) :: C.drop 0=C.take 0 ++ [(k:Int)] ++ C.drop 0 by simp];exact HO6.out.mono hz3⟩
         case measure=>simp [intOf] <;> omega
        | some ad =>
         by_cases hcc:c5=j
         · subst hcc
           go_wp2_with fail
           go_quiet (fail)
           have hRn0:=hRf.out nq
           have HBn0:Below w2.heap.size w2 (wp.drewN nq):=below_drewN HBp.out nq
           have hz30:w.heap.size+1≤(wp.drewN nq).heap.size:=hz3
           generalize wp.drewN nq=wq at *
           have hRn:=Lib.hid hRn0
           have HBn:=Lib.hid HBn0
           have hz3:=hz30
           clear hRf hRn0 HBn0 hz30 HBp HNo
           go_wp2_with (first | (at_builtin;refine wpList_append_row _ rfl (.tmp 36) (.tmp 39) 31 rfl 3 wq.heap.size iI (.int .i64 0) Tryz.underlying31 hiI zI0 zI1 zI2 rfl (.slice none 0 0) [] rfl (World.ownsRow_nil _ _ _ _) _ (C.take c5) rfl hRn.out (by have:=hNl.out.1;simp only [List.length_nil];omega) (Nat.le_refl _) ?_;intro v4 w4 hown4 hgrow4 hnxt4;(have HB4:Hid (Below wq.heap.size wq w4):=Lib.hid (Below.grown (Below.refl _ wq) hgrow4 (Nat.le_refl _) (fun j hj=>by cases hj)));rw [List.nil_append] at hown4;have HO4:=Lib.hid hown4;clear hown4 hgrow4 hnxt4) | (at_builtin;refine wpList_append_row _ rfl (.tmp 41) (.tmp 43) 31 rfl 3 wq.heap.size iI (.int .i64 0) Tryz.underlying31 hiI zI0 zI1 zI2 rfl v4 (C.take c5) rfl (HO4.out.alloc _) _ [(k:Int)] rfl (row1 _ _ _) (by have:=hNl.out.1;simp only [List.length_cons,List.length_nil];omega) (by have:=HB4.out.size;simp;omega) ?_;intro v5 w5 hown5 hgrow5 hnxt5;(have HB5:Hid (Below wq.heap.size wq w5):=Lib.hid (Below.grown (HB4.out.alloc HB4.out.size _) hgrow5 (by have:=HB4.out.size;simp;omega) (fun j hj=>(HO4.out.lt j hj).1)));have HO5:=Lib.hid hown5;clear hown5 hgrow5 hnxt5 HO4) | (at_builtin;refine wpList_append_row _ rfl (.tmp 45) (.tmp 48) 31 rfl 3 wq.heap.size iI (.int .i64 0) Tryz.underlying31 hiI zI0 zI1 zI2 rfl v5 (C.take c5 ++ [(k:Int)]) rfl HO5.out _ (C.drop c5) rfl (by rw [hDn'.out];exact RowIn.nil0 _ _) (by have:=hNl.out;simp only [List.length_append,List.length_cons,List.length_nil];omega) HB5.out.size ?_;intro v6 w6 hown6 hgrow6 hnxt6;(have HB6:Hid (Below wq.heap.size wq w6):=Lib.hid (Below.grown HB5.out hgrow6 HB5.out.size (fun j hj=>(HO5.out.lt j hj).1)));have HO6:=Lib.hid hown6;clear hown6 hgrow6 hnxt6 HO5))
           go_roundw
           case rel=>exact ⟨k+1,by omega,by go_num,(HB2.out.below HBn.out).below HB6.out,by rw [hS2.out,hIns.out,show C.take c5 ++ (k:Int) :: C.drop c5=C.take c5 ++ [(k:Int)] ++ C.drop c5 by simp];exact HO6.out.mono hz3⟩
           case measure=>simp [intOf] <;> omega
         · have hjc:j≤c5:=by omega
           go_wp2_with fail
           go_quiet (fail)
           have hRn0:=hRf.out nq
           have HBn0:Below w2.heap.size w2 (wp.drewN nq):=below_drewN HBp.out nq
           have hz30:w.heap.size+1≤(wp.drewN nq).heap.size:=hz3
           generalize wp.drewN nq=wq at *
           have hRn:=Lib.hid hRn0
           have HBn:=Lib.hid HBn0
           have hz3:=hz30
           clear hRf hRn0 HBn0 hz30 HBp HNo
           go_wp2_with (first | (at_builtin;refine wpList_append_row _ rfl (.tmp 36) (.tmp 39) 31 rfl 3 wq.heap.size iI (.int .i64 0) Tryz.underlying31 hiI zI0 zI1 zI2 rfl (.slice none 0 0) [] rfl (World.ownsRow_nil _ _ _ _) _ (C.take j) rfl hRn.out (by have:=hNl.out.1;simp only [List.length_nil];omega) (Nat.le_refl _) ?_;intro v4 w4 hown4 hgrow4 hnxt4;(have HB4:Hid (Below wq.heap.size wq w4):=Lib.hid (Below.grown (Below.refl _ wq) hgrow4 (Nat.le_refl _) (fun j hj=>by cases hj)));rw [List.nil_append] at hown4;have HO4:=Lib.hid hown4;clear hown4 hgrow4 hnxt4) | (at_builtin;refine wpList_append_row _ rfl (.tmp 41) (.tmp 43) 31 rfl 3 wq.heap.size iI (.int .i64 0) Tryz.underlying31 hiI zI0 zI1 zI2 rfl v4 (C.take j) rfl (HO4.out.alloc _) _ [(k:Int)] rfl (row1 _ _ _) (by have:=hNl.out.1;simp only [List.length_cons,List.length_nil];omega) (by have:=HB4.out.size;simp;omega) ?_;intro v5 w5 hown5 hgrow5 hnxt5;(have HB5:Hid (Below wq.heap.size wq w5):=Lib.hid (Below.grown (HB4.out.alloc HB4.out.size _) hgrow5 (by have:=HB4.out.size;simp;omega) (fun j hj=>(HO4.out.lt j hj).1)));have HO5:=Lib.hid hown5;clear hown5 hgrow5 hnxt5 HO4) | (at_builtin;refine wpList_append_row _ rfl (.tmp 45) (.tmp 48) 31 rfl 3 wq.heap.size iI (.int .i64 0) Tryz.underlying31 hiI zI0 zI1 zI2 rfl v5 (C.take j ++ [(k:Int)]) rfl HO5.out _ (C.drop j) rfl (by rw [hDn'.out];exact RowIn.nil0 _ _) (by have:=hNl.out;simp only [List.length_append,List.length_cons,List.length_nil];omega) HB5.out.size ?_;intro v6 w6 hown6 hgrow6 hnxt6;(have HB6:Hid (Below wq.heap.size wq w6):=Lib.hid (Below.grown HB5.out hgrow6 HB5.out.size (fun j hj=>(HO5.out.lt j hj).1)));have HO6:=Lib.hid hown6;clear hown6 hgrow6 hnxt6 HO5))
           go_roundw
           case rel=>exact ⟨k+1,by omega,by go_num,(HB2.out.below HBn.out).below HB6.out,by rw [hS2.out,hIns.out,show C.take j ++ (k:Int) :: C.drop j=C.take j ++ [(k:Int)] ++ C.drop j by simp];exact HO6.out.mono hz3⟩
           case measure=>simp [intOf] <;> omega
  · obtain rfl:k=m.vers.length:=by omega
    go_wp2_with fail
    go_ret
    exact ⟨_,rfl,by rw [HE.out];exact HO.out.mono (by omega),HB5.out.bel⟩
theorem all_take {f:Int→Bool} {l:List Int} {k:Nat} (h:k<l.length):(l.take (k+1)).all f=((l.take k).all f && f l[k]):=by
 rw [List.take_succ_eq_append_getElem h,List.all_append];simp
end Go.Proofs
