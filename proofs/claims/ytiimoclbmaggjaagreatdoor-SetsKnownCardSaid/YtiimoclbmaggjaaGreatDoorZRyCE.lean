/- Walks: the document's answer for what lies in what: Kids, Points, Composite, Chain, Depth. -/
import Derived.Test.YtiimoclbmaggjaaGreatDoorZRyAB
namespace Go.Proofs
open Go.RowKit Go.Lx Go.Md Go.Shelf Go.BigFrame Go.Rgi
open Lib(hid)
open Go.Proofs.Tryz
set_option maxRecDepth 100000
set_option maxHeartbeats 0
set_option linter.unusedVariables false
theorem yL {w a b:World} (h:Bl w a) (g:Bl a b):Bl w b:=h.trans (g.mono h.size)
theorem RowIn.front {w:World} {a:Option Addr} {n c j:Nat} {l:List Int} (h:RowIn w (.slice a n c) l) (hj:j<=l.length):RowIn w (.slice a j c) (l.take j):=by
 rcases h with ⟨a',c',e,rfl⟩ | ⟨b,off,c',e,h0,h1,h3⟩
 . simp only [Value.slice.injEq] at e
   obtain ⟨rfl,_,rfl⟩:=e;have:j=0:=by simpa using hj
   subst this;exact .inl ⟨_,_,rfl,rfl⟩
 . simp only [Value.slice.injEq] at e
   obtain ⟨rfl,_,rfl⟩:=e;have hl:(l.take j).length=j:=List.length_take_of_le hj;refine .inr ⟨b,off,c,by rw [hl],by rw [hl];omega,h1,fun i u hi=>h3 i u ?_⟩;simp only [nums,List.getElem?_map] at hi |-;rw [List.getElem?_take] at hi
   split at hi
   . exact hi
   . cases hi
theorem RowIn.back {w:World} {b off n c j:Nat} {l:List Int} (h:RowIn w (.slice (some ⟨b,off,none⟩) n c) l) (hj:j<l.length):RowIn w (.slice (some ⟨b,off+j,none⟩) (l.length - j) (c - j)) (l.drop j):=by
 rcases h with ⟨a',c',e,rfl⟩ | ⟨b',off',c',e,h0,h1,h3⟩
 . simp at hj
 . simp only [Value.slice.injEq,Option.some.injEq,Addr.mk.injEq,and_true] at e
   obtain ⟨⟨rfl,rfl⟩,_,rfl⟩:=e;refine .inr ⟨b,off+j,c - j,by rw [List.length_drop],by rw [List.length_drop];omega,h1,fun i u hi=>?_⟩;simp only [nums,List.getElem?_map,List.getElem?_drop] at hi;have:=h3 (j+i) u (by simp only [nums,List.getElem?_map];exact hi);rw [yU] at this |-;rw [Nat.add_assoc];exact this
theorem RowIn.nil0 {w:World} (a:Option Addr) (c:Nat):RowIn w (.slice a 0 c) []:=.inl ⟨a,c,rfl,rfl⟩
theorem zd2 (m:MdlD) (v:Int) (k:Nat):(chainF m v k).length<=k:=by
 have hi:∀ (s:Int) (l:List Int),(insC m s l).length=l.length+1:=by
   intro s l
   induction l with
   | nil=>rfl
   | cons o t ih =>
    unfold insC
    split
    . simp [ih]
    . simp
 induction k with
 | zero=>simp [chainF]
 | succ k ih =>
  rw [qu]
  split
  . rw [hi];omega
  . omega
theorem qU {Q:Nat->BP} (m:MdlD) (p:Ph) (v:Int) (w:World) (h:Mod Q w m p) (h0:riM m=(0,0,0)) (hvl:m.zc.length<=1000) (hrl:m.zb.length<=100000) :
   Calls prog 86 #[ixV m p,.int .i64 v] w (RowP (chainM m v) w):=by
 have HB:=hid (Mb.madeT h 93);have HU:=hid (fun wx (g:Mb m p w.heap.size w wx) (a b:Int)=>zcj m p a b wx g.mod h0 (by omega) (by omega));have HE:Hid (chainM m v=chainF m v m.zc.length):=hid (chain_eq h0 v).symm;have HS:=hid (fun k=>qu m v k);have HN:=hid (fun k=>zd2 m v k);obtain ⟨iI,hiI,zI0,zI1,zI2⟩:=info_parts zS;unfold ixV mdV at HU |-;clear h h0;go_enter func86,ntmps86;go_wp2_with fail
 go_loopw [5,6] (fun o i wr=>∃ k:Nat,k<=m.zc.length/\i=.int .i64 k/\Mb m p w.heap.size w wr/\wr.ownsRow (w.heap.size+1) 3 1 o (chainF m v k).length (nums (chainF m v k))) (fun _ i _=>m.zc.length - (intOf i).toNat)
 case atStart=>exact ⟨0,by omega,rfl,HB.o,World.ownsRow_nil _ _ _ _⟩
 case round =>
  obtain ⟨wo,rfl⟩:=ex1 wr;obtain ⟨k,hk,rfl,hb,ho⟩:=hrel;have HB5:=hid hb;obtain ⟨a5,c5,rfl⟩:=zj ho;have HO:=hid ho;clear hb HB ho;obtain ⟨x0,x1,x2,x3,x4,x5,_⟩:=HB5.o.box
  by_cases hlt:k<m.zc.length
  . have hI:(k:Int)<(m.zc.length:Int):=by omega
    have hI0:(0:Int)<=(k:Int):=by omega
    have hSk:=HS.o k;have hnk:=HN.o k;have HUk:=hid (HU.o wo HB5.o v k)
    have hcap:(chainF m v k).length<=c5:=by
      rcases HO.o.2 with ⟨e,h0⟩ | ⟨g',c',_,e,_,_,hc,_⟩
      . simp only [Value.slice.injEq] at e;omega
      . simp only [Value.slice.injEq] at e;omega
    generalize chainF m v k=C at HO hSk hnk hcap |-
    cases hu:underM m v k with
    | false =>
     rw [hu] at HUk;have hS2:Hid (chainF m v (k+1)=C):=hid (by rw [hSk,hu];rfl);clear hSk hu;go_wp2_with fail;(with_reducible refine (HUk.o).mono ?_);rintro e w2 ⟨rfl,g2⟩;go_wp2_with fail;go_roundw
     case rel=>exact ⟨k+1,by omega,by go_num,HB5.o.zf g2,by rw [hS2.o];exact zY HO.o g2⟩
     case measure=>simp [intOf] <;> omega
    | true =>
     rw [hu] at HUk;have hS2:Hid (chainF m v (k+1)=insC m k C):=hid (by rw [hSk,hu];rfl);clear hSk hu;obtain ⟨n,hn⟩:=ex2 C.length;have HNn:=hid hn;rw [hn] at hnk hcap |-;clear hn;go_wp2_with fail;(with_reducible refine (HUk.o).mono ?_);rintro e w2 ⟨rfl,g2⟩;have HB2:=hid (HB5.o.zf g2);have HO2:=hid (zY HO.o g2);have HR2:Hid (RowIn w2 (.slice a5 n c5) C):=hid (by have:=RowIn.own HO2.o;rw [HNn.o] at this;exact this);clear g2 HUk x0 x1 x2 x3 x4 x5 HB5 HO;go_wp2_with fail
     go_loopw [7] (fun a wr=>∃ j:Nat,j<=n/\a=.int .i64 j/\Bl w2 wr/\∀ i (h:i<C.length),i<j->underM m k C[i]=true) (fun a _=>n - (intOf a).toNat)
     case atStart=>exact ⟨0,by omega,rfl,Below.refl _ _,fun i _ hi=>by omega⟩
     case round =>
      obtain ⟨wp,rfl⟩:=ex1 wr;obtain ⟨j,hj,rfl,hb,hno⟩:=hrel;have HBp:=hid hb;have HNo:=hid hno;clear hb hno;have hEnd:Hid ((∀ (h:j<C.length),underM m k C[j]=false)->insC m k C=C.take j ++ (k:Int) :: C.drop j):=hid (fun hn=>insC_end (by rw [HNn.o];exact hj) HNo.o hn);have hTail:Hid (∀ wq:World,Bl w2 wq->RowIn wq (.slice a5 j c5) (C.take j)):=hid (fun wq g=>(HR2.o.zf g).front (by rw [HNn.o];exact hj))
      by_cases hjlt:j<n
      . have hjI:(j:Int)<(n:Int):=by omega
        have hj0:(0:Int)<=(j:Int):=by omega
        have hjl:j<C.length:=by rw [HNn.o];exact hjlt
        obtain ⟨a',c',e,_,q⟩:=HR2.o.len;obtain ⟨b5,o5,ea,hbl,hcl⟩:=q j hjl;simp only [Value.slice.injEq] at e;obtain ⟨rfl,e',rfl⟩:=e;clear e';subst ea;have HUj:=hid (fun wx (g:Bl w2 wx)=>HU.o wx (HB2.o.zf g) k C[j])
        have hStep:Hid (underM m k C[j]=true->∀ i (h:i<C.length),i<j+1->underM m k C[i]=true):=hid (fun ht i hi hij=>by
          by_cases e:i=j
          . subst e;exact ht
          . exact HNo.o i hi (by omega))
        have hEnd2:=hid (fun (hf:underM m k C[j]=false)=>hEnd.o (fun _=>hf));obtain ⟨z,hz⟩:=ex2 (C[j]);rw [hz] at hcl HUj hStep hEnd2
        have HS7:Hid (∀ W',Bl w2 W'->W'.cell? ⟨w.heap.size,0,none⟩=some (.string m.nm)/\W'.cell? ⟨w.heap.size,1,none⟩=some (.slice p.a1 m.vars.length p.c1)/\W'.cell? ⟨w.heap.size,2,none⟩=some (.slice p.a2 m.za.length p.c2)/\W'.cell? ⟨w.heap.size,3,none⟩=some (.slice p.a3 m.zb.length p.c3)/\W'.cell? ⟨w.heap.size,4,none⟩=some (.slice p.a4 m.zc.length p.c4)/\W'.cell? ⟨w.heap.size,5,none⟩=some (.slice p.a5 m.ze.length p.c5)/\W'.cell? ⟨b5,o5+j,none⟩=some (.int .i64 z)):=fun W' g=>by
          obtain ⟨x0,x1,x2,x3,x4,x5,_⟩:=(HB2.o.zf g).box;exact ⟨x0,x1,x2,x3,x4,x5,(g.cell (p:=⟨b5,o5+j,none⟩) hbl).trans hcl⟩
        clear hEnd hz q hcl HU
        cases hu:underM m k z with
        | true =>
         have hNx:=hid (hStep.o hu);rw [hu] at HUj;clear hu hStep hEnd2 hTail hS2;go_wp2_with fail;refine wp_region_any (by kernel_rfl) ?_;change wpAny _ _ _ _ _ _ _ (World.drew _);refine hld HS7.o (HBp.o.drew) (fun hHeld=>?_);refine tk 0 rfl ?_;refine tk 1 rfl ?_;refine tk 2 rfl ?_;refine tk 3 rfl ?_;refine tk 4 rfl ?_;refine tk 5 rfl ?_;refine tk 6 rfl ?_;refine tk 7 rfl ?_;refine tk 8 rfl ?_;refine tk 9 rfl ?_;refine tk 10 rfl ?_;refine rd1 11 (fun K hK=>?_);(go_simp;(with_reducible refine (HUj.o _ HBp.o.drew).mono ?_);rintro e w3 ⟨rfl,hb3⟩;have hB3:Bl w2 w3:=yL HBp.o.drew hb3;go_wp2_with fail);refine nx hK ?_ (fun hH1=>?_);(first | exact HS7.o _ (by assumption) | exact HS7.o _ HBp.o.drew);clear hK K hHeld;refine tk 12 rfl ?_;refine dn ?_;rotate_left
         all_goals
           go_wp2_with fail;go_roundw
           case rel=>exact ⟨j+1,by omega,by go_num,hB3,hNx.o⟩
           case measure=>simp [intOf] <;> omega
        | false =>
         have hIns:=hid (hEnd2.o hu);rw [hu] at HUj;clear hu hStep hEnd2;go_wp2_with fail;refine wp_region_any (by kernel_rfl) ?_;change wpAny _ _ _ _ _ _ _ (World.drew _);refine hld HS7.o (HBp.o.drew) (fun hHeld=>?_);refine tk 0 rfl ?_;refine tk 1 rfl ?_;refine tk 2 rfl ?_;refine tk 3 rfl ?_;refine tk 4 rfl ?_;refine tk 5 rfl ?_;refine tk 6 rfl ?_;refine tk 7 rfl ?_;refine tk 8 rfl ?_;refine tk 9 rfl ?_;refine tk 10 rfl ?_;refine rd1 11 (fun K hK=>?_);(go_simp;(with_reducible refine (HUj.o _ HBp.o.drew).mono ?_);rintro e w3 ⟨rfl,hb3⟩;have hB3:Bl w2 w3:=yL HBp.o.drew hb3;go_wp2_with fail);refine nx hK ?_ (fun hH1=>?_);(first | exact HS7.o _ (by assumption) | exact HS7.o _ HBp.o.drew);clear hK K hHeld;refine tk 12 rfl ?_;refine dn ?_;rotate_left
         all_goals
           have HB3:=hid hB3;have hRf:=hid (hTail.o w3 hB3);clear hb3 hB3 HS7 hTail;have hjc:j<=c5:=by omega
           have hjc0:¬ (c5=j):=by omega
           have hRb:Hid (∀ wq:World,Bl w3 wq->RowIn wq (.slice (some ⟨b5,o5+j,none⟩) (n - j) (c5 - j)) (C.drop j)):=hid (fun wq g=>by
             have:=(HR2.o.zf (yL HB3.o g)).back hjl;rw [HNn.o] at this;exact this)
           have hz3:w.heap.size+1<=w3.heap.size:=by have:=HB2.o.box.sl;have:=HB3.o.size;omega
           have hNl:Hid ((C.take j).length=j/\(C.drop j).length=n - j):=hid ⟨by rw [List.length_take];have:=HNn.o;omega,by rw [List.length_drop,HNn.o]⟩;have hkb:n<=1000:=by omega
           clear hjc0;go_wp2_with (first | (at_builtin;refine zn _ rfl (.tmp 36) (.tmp 39) 31 rfl 3 w3.heap.size iI (.int .i64 0) underlying31 hiI zI0 zI1 zI2 rfl (.slice none 0 0) [] rfl (World.ownsRow_nil _ _ _ _) (.slice (some ⟨b5,o5,none⟩) j c5) (C.take j) rfl hRf.o (by have:=hNl.o.1;simp only [List.length_nil];omega) (Nat.le_refl _) ?_;intro v4 w4 hown4 hgrow4 hnxt4;(have HB4:Hid (Bl w3 w4):=hid (Below.grown (Below.refl _ w3) hgrow4 (Nat.le_refl _) (fun j hj=>by cases hj)));rw [List.nil_append] at hown4;have HO4:=hid hown4;clear hown4 hgrow4 hnxt4) | (at_builtin;refine zn _ rfl (.tmp 41) (.tmp 43) 31 rfl 3 w3.heap.size iI (.int .i64 0) underlying31 hiI zI0 zI1 zI2 rfl v4 (C.take j) rfl (HO4.o.alloc _) _ [(k:Int)] rfl (row1 _ _ _) (by have:=hNl.o.1;simp only [List.length_cons,List.length_nil];omega) (by have:=HB4.o.size;simp;omega) ?_;intro v5 w5 hown5 hgrow5 hnxt5;(have HB5:Hid (Bl w3 w5):=hid (Below.grown (HB4.o.alloc HB4.o.size _) hgrow5 (by have:=HB4.o.size;simp;omega) (fun j hj=>(HO4.o.lt j hj).1)));have HO5:=hid hown5;clear hown5 hgrow5 hnxt5 HO4) | (at_builtin;refine zn _ rfl (.tmp 45) (.tmp 48) 31 rfl 3 w3.heap.size iI (.int .i64 0) underlying31 hiI zI0 zI1 zI2 rfl v5 (C.take j ++ [(k:Int)]) rfl HO5.o (.slice (some ⟨b5,o5+j,none⟩) (n - j) (c5 - j)) (C.drop j) rfl (hRb.o _ HB5.o) (by have:=hNl.o;simp only [List.length_append,List.length_cons,List.length_nil];omega) HB5.o.size ?_;intro v6 w6 hown6 hgrow6 hnxt6;(have HB6:Hid (Bl w3 w6):=hid (Below.grown HB5.o hgrow6 HB5.o.size (fun j hj=>(HO5.o.lt j hj).1)));have HO6:=hid hown6;clear hown6 hgrow6 hnxt6 HO5));go_roundw
           case rel=>exact ⟨k+1,by omega,by go_num,(HB2.o.zf HB3.o).zf HB6.o,by rw [hS2.o,hIns.o,show C.take j ++ (k:Int) :: C.drop j=C.take j ++ [(k:Int)] ++ C.drop j by simp];exact HO6.o.mono hz3⟩
           case measure=>simp [intOf] <;> omega
      . obtain rfl:j=n:=by omega
        have hjI:¬ ((j:Int)<(j:Int)):=by omega
        have hdj:decide ((j:Int)<(j:Int))=false:=by simp
        have hDn:C.drop j=[]:=List.drop_eq_nil_of_le (by have:=HNn.o;omega);have hIns:=hid (hEnd.o (fun h=>absurd h (by have:=HNn.o;omega)));have hNl:Hid ((C.take j).length=j/\(C.drop j).length=0):=hid ⟨by rw [List.length_take];have:=HNn.o;omega,by rw [hDn];rfl⟩;have hDn':=hid hDn;have hz3:w.heap.size+1<=wp.heap.size:=by have:=HB2.o.box.sl;have:=HBp.o.size;omega
        have hRf:=hid (fun nq=>hTail.o _ (below_drewN HBp.o nq));clear hEnd hTail hDn HU;have hkb:j<=1000:=by omega
        cases a5 with
        | none =>
         have hcc:j=0/\c5=0:=by
           rcases HO2.o.2 with ⟨e,h0⟩ | ⟨g',c',_,e,_⟩
           . simp only [Value.slice.injEq] at e;exact ⟨by have:=HNn.o;omega,e.2.2⟩
           . simp at e
         obtain ⟨rfl,rfl⟩:=hcc;clear hjI hdj hcap;go_wp2_with fail
         go_quiet (fail)
         have hRn0:=hRf.o nq;have HBn0:Bl w2 (wp.drewN nq):=below_drewN HBp.o nq;have hz30:w.heap.size+1<=(wp.drewN nq).heap.size:=hz3;generalize wp.drewN nq=wq at *;have hRn:=hid hRn0;have HBn:=hid HBn0;have hz3:=hz30;clear hRf hRn0 HBn0 hz30 HBp HNo;go_wp2_with (first | (at_builtin;refine zn _ rfl (.tmp 36) (.tmp 39) 31 rfl 3 wq.heap.size iI (.int .i64 0) underlying31 hiI zI0 zI1 zI2 rfl (.slice none 0 0) [] rfl (World.ownsRow_nil _ _ _ _) _ (C.take 0) rfl hRn.o (by have:=hNl.o.1;simp only [List.length_nil];omega) (Nat.le_refl _) ?_;intro v4 w4 hown4 hgrow4 hnxt4;(have HB4:Hid (Bl wq w4):=hid (Below.grown (Below.refl _ wq) hgrow4 (Nat.le_refl _) (fun j hj=>by cases hj)));rw [List.nil_append] at hown4;have HO4:=hid hown4;clear hown4 hgrow4 hnxt4) | (at_builtin;refine zn _ rfl (.tmp 41) (.tmp 43) 31 rfl 3 wq.heap.size iI (.int .i64 0) underlying31 hiI zI0 zI1 zI2 rfl v4 (C.take 0) rfl (HO4.o.alloc _) _ [(k:Int)] rfl (row1 _ _ _) (by have:=hNl.o.1;simp only [List.length_cons,List.length_nil];omega) (by have:=HB4.o.size;simp;omega) ?_;intro v5 w5 hown5 hgrow5 hnxt5;(have HB5:Hid (Bl wq w5):=hid (Below.grown (HB4.o.alloc HB4.o.size _) hgrow5 (by have:=HB4.o.size;simp;omega) (fun j hj=>(HO4.o.lt j hj).1)));have HO5:=hid hown5;clear hown5 hgrow5 hnxt5 HO4) | (at_builtin;refine zn _ rfl (.tmp 45) (.tmp 48) 31 rfl 3 wq.heap.size iI (.int .i64 0) underlying31 hiI zI0 zI1 zI2 rfl v5 (C.take 0 ++ [(k:Int)]) rfl HO5.o _ (C.drop 0) rfl (by rw [hDn'.o];exact RowIn.nil0 _ _) (by have:=hNl.o;simp only [List.length_append,List.length_cons,List.length_nil];omega) HB5.o.size ?_;intro v6 w6 hown6 hgrow6 hnxt6;(have HB6:Hid (Bl wq w6):=hid (Below.grown HB5.o hgrow6 HB5.o.size (fun j hj=>(HO5.o.lt j hj).1)));have HO6:=hid hown6;clear hown6 hgrow6 hnxt6 HO5));go_roundw
         case rel=>exact ⟨k+1,by omega,by go_num,(HB2.o.zf HBn.o).zf HB6.o,by rw [hS2.o,hIns.o,show C.take 0 ++ (k:Int) :: C.drop 0=C.take 0 ++ [(k:Int)] ++ C.drop 0 by simp];exact HO6.o.mono hz3⟩
         case measure=>simp [intOf] <;> omega
        | some ad =>
         by_cases hcc:c5=j
         . subst hcc
           go_wp2_with fail
           go_quiet (fail)
           have hRn0:=hRf.o nq;have HBn0:Bl w2 (wp.drewN nq):=below_drewN HBp.o nq;have hz30:w.heap.size+1<=(wp.drewN nq).heap.size:=hz3;generalize wp.drewN nq=wq at *;have hRn:=hid hRn0;have HBn:=hid HBn0;have hz3:=hz30;clear hRf hRn0 HBn0 hz30 HBp HNo;go_wp2_with (first | (at_builtin;refine zn _ rfl (.tmp 36) (.tmp 39) 31 rfl 3 wq.heap.size iI (.int .i64 0) underlying31 hiI zI0 zI1 zI2 rfl (.slice none 0 0) [] rfl (World.ownsRow_nil _ _ _ _) _ (C.take c5) rfl hRn.o (by have:=hNl.o.1;simp only [List.length_nil];omega) (Nat.le_refl _) ?_;intro v4 w4 hown4 hgrow4 hnxt4;(have HB4:Hid (Bl wq w4):=hid (Below.grown (Below.refl _ wq) hgrow4 (Nat.le_refl _) (fun j hj=>by cases hj)));rw [List.nil_append] at hown4;have HO4:=hid hown4;clear hown4 hgrow4 hnxt4) | (at_builtin;refine zn _ rfl (.tmp 41) (.tmp 43) 31 rfl 3 wq.heap.size iI (.int .i64 0) underlying31 hiI zI0 zI1 zI2 rfl v4 (C.take c5) rfl (HO4.o.alloc _) _ [(k:Int)] rfl (row1 _ _ _) (by have:=hNl.o.1;simp only [List.length_cons,List.length_nil];omega) (by have:=HB4.o.size;simp;omega) ?_;intro v5 w5 hown5 hgrow5 hnxt5;(have HB5:Hid (Bl wq w5):=hid (Below.grown (HB4.o.alloc HB4.o.size _) hgrow5 (by have:=HB4.o.size;simp;omega) (fun j hj=>(HO4.o.lt j hj).1)));have HO5:=hid hown5;clear hown5 hgrow5 hnxt5 HO4) | (at_builtin;refine zn _ rfl (.tmp 45) (.tmp 48) 31 rfl 3 wq.heap.size iI (.int .i64 0) underlying31 hiI zI0 zI1 zI2 rfl v5 (C.take c5 ++ [(k:Int)]) rfl HO5.o _ (C.drop c5) rfl (by rw [hDn'.o];exact RowIn.nil0 _ _) (by have:=hNl.o;simp only [List.length_append,List.length_cons,List.length_nil];omega) HB5.o.size ?_;intro v6 w6 hown6 hgrow6 hnxt6;(have HB6:Hid (Bl wq w6):=hid (Below.grown HB5.o hgrow6 HB5.o.size (fun j hj=>(HO5.o.lt j hj).1)));have HO6:=hid hown6;clear hown6 hgrow6 hnxt6 HO5));go_roundw
           case rel=>exact ⟨k+1,by omega,by go_num,(HB2.o.zf HBn.o).zf HB6.o,by rw [hS2.o,hIns.o,show C.take c5 ++ (k:Int) :: C.drop c5=C.take c5 ++ [(k:Int)] ++ C.drop c5 by simp];exact HO6.o.mono hz3⟩
           case measure=>simp [intOf] <;> omega
         . have hjc:j<=c5:=by omega
           go_wp2_with fail
           go_quiet (fail)
           have hRn0:=hRf.o nq;have HBn0:Bl w2 (wp.drewN nq):=below_drewN HBp.o nq;have hz30:w.heap.size+1<=(wp.drewN nq).heap.size:=hz3;generalize wp.drewN nq=wq at *;have hRn:=hid hRn0;have HBn:=hid HBn0;have hz3:=hz30;clear hRf hRn0 HBn0 hz30 HBp HNo;go_wp2_with (first | (at_builtin;refine zn _ rfl (.tmp 36) (.tmp 39) 31 rfl 3 wq.heap.size iI (.int .i64 0) underlying31 hiI zI0 zI1 zI2 rfl (.slice none 0 0) [] rfl (World.ownsRow_nil _ _ _ _) _ (C.take j) rfl hRn.o (by have:=hNl.o.1;simp only [List.length_nil];omega) (Nat.le_refl _) ?_;intro v4 w4 hown4 hgrow4 hnxt4;(have HB4:Hid (Bl wq w4):=hid (Below.grown (Below.refl _ wq) hgrow4 (Nat.le_refl _) (fun j hj=>by cases hj)));rw [List.nil_append] at hown4;have HO4:=hid hown4;clear hown4 hgrow4 hnxt4) | (at_builtin;refine zn _ rfl (.tmp 41) (.tmp 43) 31 rfl 3 wq.heap.size iI (.int .i64 0) underlying31 hiI zI0 zI1 zI2 rfl v4 (C.take j) rfl (HO4.o.alloc _) _ [(k:Int)] rfl (row1 _ _ _) (by have:=hNl.o.1;simp only [List.length_cons,List.length_nil];omega) (by have:=HB4.o.size;simp;omega) ?_;intro v5 w5 hown5 hgrow5 hnxt5;(have HB5:Hid (Bl wq w5):=hid (Below.grown (HB4.o.alloc HB4.o.size _) hgrow5 (by have:=HB4.o.size;simp;omega) (fun j hj=>(HO4.o.lt j hj).1)));have HO5:=hid hown5;clear hown5 hgrow5 hnxt5 HO4) | (at_builtin;refine zn _ rfl (.tmp 45) (.tmp 48) 31 rfl 3 wq.heap.size iI (.int .i64 0) underlying31 hiI zI0 zI1 zI2 rfl v5 (C.take j ++ [(k:Int)]) rfl HO5.o _ (C.drop j) rfl (by rw [hDn'.o];exact RowIn.nil0 _ _) (by have:=hNl.o;simp only [List.length_append,List.length_cons,List.length_nil];omega) HB5.o.size ?_;intro v6 w6 hown6 hgrow6 hnxt6;(have HB6:Hid (Bl wq w6):=hid (Below.grown HB5.o hgrow6 HB5.o.size (fun j hj=>(HO5.o.lt j hj).1)));have HO6:=hid hown6;clear hown6 hgrow6 hnxt6 HO5));go_roundw
           case rel=>exact ⟨k+1,by omega,by go_num,(HB2.o.zf HBn.o).zf HB6.o,by rw [hS2.o,hIns.o,show C.take j ++ (k:Int) :: C.drop j=C.take j ++ [(k:Int)] ++ C.drop j by simp];exact HO6.o.mono hz3⟩
           case measure=>simp [intOf] <;> omega
  . obtain rfl:k=m.zc.length:=by omega
    go_wp2_with fail;go_ret;exact ⟨_,rfl,by rw [HE.o];exact HO.o.mono (by omega),HB5.o.bel⟩
theorem zch {Q:Nat->BP} (m:MdlD) (p:Ph) (v:Int) (w:World) (h:Mod Q w m p) (h0:riM m=(0,0,0)) (hvl:m.zc.length<=1000) (hrl:m.zb.length<=100000) :
   Calls prog 78 #[ixV m p,.int .i64 v] w fun e w'=>e=.returned (.int .i64 (depM' m v))/\Bl w w':=by
 have HB:=hid (Mb.madeT h 93);have HC:=hid (fun wx (g:Mb m p w.heap.size w wx)=>yn m p v wx g.mod (by omega));have HR:=hid (fun wx (g:Mb m p w.heap.size w wx)=>qU m p v wx g.mod h0 hvl hrl);have HE:=hid (depth_eq h0 v);unfold ixV mdV at HC HR |-;clear h h0
 cases hs:hasV m v with
 | false =>
  have hR:Hid (depM' m v=-1):=hid (by rw [HE.o,hs];rfl);rw [hs] at HC;clear hs HE HR;rw [hR.o];go_enter func78,ntmps78;go_wp2_with ((with_reducible refine (HC.o _ HB.o).mono ?_);rintro e w2 ⟨rfl,g2⟩);go_ret;exact ⟨rfl,(HB.o.zf g2).bel⟩
 | true =>
  have hR:Hid (depM' m v=(chainM m v).length):=hid (by rw [HE.o,hs];rfl);rw [hs] at HC;clear hs HE;rw [hR.o];go_enter func78,ntmps78;go_wp2_with fail;(with_reducible refine (HC.o _ HB.o).mono ?_);rintro e w2 ⟨rfl,g2⟩;have HB2:=hid (HB.o.zf g2);obtain ⟨x0,x1,x2,x3,x4,x5,_⟩:=HB2.o.box;clear HC HB g2;go_wp2_with fail;(with_reducible refine (HR.o _ HB2.o).mono ?_);rintro e w3 ⟨v3,rfl,o3,g3⟩;obtain ⟨a3,c3,rfl⟩:=zj o3;have HB3:=hid (HB2.o.zf g3);clear o3 g3 x0 x1 x2 x3 x4 x5;go_wp2_with fail;go_ret;exact ⟨rfl,HB3.o.bel⟩
theorem all_take {f:Int->Bool} {l:List Int} {k:Nat} (h:k<l.length):(l.take (k+1)).all f=((l.take k).all f && f l[k]):=by
 rw [List.take_succ_eq_append_getElem h,List.all_append];simp
theorem zba {Q:Nat->BP} (m:MdlD) (p:Ph) (l:List Int) (lv:Value) (w:World) (h:Mod Q w m p) (h0:riM m=(0,0,0)) (hr:RowIn w lv l) (hl:l.length<=100000) (hvl:m.zc.length<=1000) (hrl:m.zb.length<=100000) :
   Calls prog 87 #[ixV m p,lv] w fun e w'=>e=.returned (.int .i64 (comR m l))/\Bl w w':=by
 have HB:=hid (Mb.madeT h 93);have HI:=hid (fun wx (g:Mb m p w.heap.size w wx) (a b:Int)=>kE m p a b wx g.mod h0 (by omega) (by omega));have HD:=hid (fun wx (g:Mb m p w.heap.size w wx) (a:Int)=>zch m p a wx g.mod h0 hvl hrl);have HO:=hid (fun wx (g:Mb m p w.heap.size w wx) (j:Nat) (hj:j<m.zb.length)=>g.mod.ownC hj);have hcap:=hid (fun h0=>h.zb.cap h0);have HRL:=hid (fun (wx:World) (g:Bl w wx)=>(hr.zf g).len);have HS:=hid (fun k=>zbJ m l k);have HA:=hid (fun (r:Int) (k:Nat) (h:k<l.length)=>all_take (f:=fun v=>inM m v r) h);have HOw:=hid (fun (k:Nat) (h:k<m.zb.length)=>yq (m:=m) h);obtain ⟨a1,c1,rfl,hc1,_⟩:=hr.len;unfold ixV mdV at HI HD |-;have HE:Hid (comR m l=(comF m l m.zb.length).1):=hid rfl;obtain ⟨n1,hn1⟩:=ex2 l.length;have HN1:=hid hn1;rw [hn1] at hl hc1 |-;clear h h0 hr hn1;go_enter func87,ntmps87;go_wp2_with fail
 go_loopw [5,6,7] (fun b d i wr=>∃ k:Nat,k<=m.zb.length/\i=.int .i64 k/\b=.int .i64 (comF m l k).1/\d=.int .i64 (comF m l k).2/\Mb m p w.heap.size w wr) (fun _ _ i _=>m.zb.length - (intOf i).toNat)
 case atStart=>exact ⟨0,by omega,rfl,rfl,rfl,HB.o⟩
 case round =>
  obtain ⟨wo,rfl⟩:=ex1 wr;obtain ⟨k,hk,rfl,rfl,rfl,hb⟩:=hrel;have HB5:=hid hb;clear hb HB;obtain ⟨x0,x1,x2,x3,x4,x5,_⟩:=HB5.o.box
  by_cases hlt:k<m.zb.length
  . have hI:(k:Int)<(m.zb.length:Int):=by omega
    have hI0:(0:Int)<=(k:Int):=by omega
    have HSk:=hid (HS.o k);have hSt:Hid (comStep m l (comF m l k) k=if l.all (fun v=>inM m v (k:Int)) && decide ((comF m l k).2<depM' m (ownA m k)) then ((k:Int),depM' m (ownA m k)) else comF m l k):=hid rfl;have HAk:=hid (HA.o k);have hOwn:=HOw.o k hlt;rw [hOwn] at hSt;have HSk2:=hid (HSk.o.trans hSt.o);have HOk:=hid (fun wx (g:Mb m p w.heap.size w wx)=>HO.o wx g k hlt);have hcp:=hcap.o (by omega);generalize comF m l k=st at *;obtain ⟨bst,dst⟩:=st;dsimp only at HSk2 |-;clear HSk hSt hOwn HA HOw HO hcap;go_wp2_with fail
    go_loopw [8,9] (fun a i wr=>∃ j:Nat,j<=n1/\i=.int .i64 j/\a=.bool ((l.take j).all fun v=>inM m v k)/\Mb m p w.heap.size w wr) (fun _ i _=>n1 - (intOf i).toNat)
    case atStart=>exact ⟨0,by omega,rfl,rfl,HB5.o⟩
    case round =>
     obtain ⟨wp,rfl⟩:=ex1 wr;obtain ⟨j,hj,rfl,rfl,hb⟩:=hrel;have HB6:=hid hb;clear hb HB5 x0 x1 x2 x3 x4 x5;have hB0:Bl wp wp:=Below.refl _ _
     by_cases hjlt:j<n1
     . have hjI:(j:Int)<(n1:Int):=by omega
       have hj0:(0:Int)<=(j:Int):=by omega
       have hjl:j<l.length:=by rw [HN1.o];exact hjlt
       have hAj:=HAk.o j hjl;obtain ⟨a',c',e,_,q⟩:=HRL.o wp HB6.o.bel;obtain ⟨b1,o1,ea,hbl,hcl⟩:=q j hjl;simp only [Value.slice.injEq] at e;obtain ⟨rfl,e',rfl⟩:=e;clear e';subst ea;have HIj:=hid (fun wx (g:Bl wp wx)=>HI.o wx (HB6.o.zf g) l[j] k);obtain ⟨z,hz⟩:=ex2 (l[j]);rw [hz] at hcl HIj hAj;have HAj:=hid hAj;clear hz q hAj hjl
       cases hall:(l.take j).all fun v=>inM m v k with
       | false =>
        have hR:Hid (((l.take (j+1)).all fun v=>inM m v k)=false):=hid (by rw [HAj.o,hall];rfl);obtain ⟨x0,x1,x2,x3,x4,x5,_⟩:=HB6.o.box;clear HAj hall HIj;go_wp2_with fail
        go_quiet (fail)
        go_wp2_with fail;go_roundw
        case rel=>exact ⟨j+1,by omega,by go_num,by rw [hR.o],HB6.o.zf (below_drewN hB0 nq)⟩
        case measure=>simp [intOf] <;> omega
       | true =>
        have hR:Hid (((l.take (j+1)).all fun v=>inM m v k)=inM m z k):=hid (by rw [HAj.o,hall];rfl)
        have HS9:Hid (∀ W',Bl wp W'->W'.cell? ⟨w.heap.size,0,none⟩=some (.string m.nm)/\W'.cell? ⟨w.heap.size,1,none⟩=some (.slice p.a1 m.vars.length p.c1)/\W'.cell? ⟨w.heap.size,2,none⟩=some (.slice p.a2 m.za.length p.c2)/\W'.cell? ⟨w.heap.size,3,none⟩=some (.slice p.a3 m.zb.length p.c3)/\W'.cell? ⟨w.heap.size,4,none⟩=some (.slice p.a4 m.zc.length p.c4)/\W'.cell? ⟨w.heap.size,5,none⟩=some (.slice p.a5 m.ze.length p.c5)/\W'.cell? ⟨b1,o1+j,none⟩=some (.int .i64 z)):=fun W' g=>by
          obtain ⟨x0,x1,x2,x3,x4,x5,_⟩:=(HB6.o.zf g).box;exact ⟨x0,x1,x2,x3,x4,x5,(g.cell (p:=⟨b1,o1+j,none⟩) hbl).trans hcl⟩
        clear HAj hall hcl;go_wp2_with fail;refine wp_region_any (by kernel_rfl) ?_;change wpAny _ _ _ _ _ _ _ (World.drew _);refine hld HS9.o (hB0.drew) (fun hHeld=>?_);refine tk 0 rfl ?_;refine tk 1 rfl ?_;refine tk 2 rfl ?_;refine tk 3 rfl ?_;refine tk 4 rfl ?_;refine tk 5 rfl ?_;refine tk 6 rfl ?_;refine tk 7 rfl ?_;refine rd1 8 (fun K hK=>?_);(go_simp;(with_reducible refine (HIj.o _ hB0.drew).mono ?_);rintro e w7 ⟨rfl,hb7⟩;have hB7:Bl wp w7:=yL hB0.drew hb7;go_wp2_with fail);refine nx hK ?_ (fun hH1=>?_);(first | exact HS9.o _ (by assumption) | exact HS9.o _ hB0.drew);clear hK K hHeld;refine tk 9 rfl ?_;refine tk 10 rfl ?_;refine dn ?_;rotate_left
        all_goals
          go_wp2_with fail;go_roundw
          case rel=>exact ⟨j+1,by omega,by go_num,by rw [hR.o],HB6.o.zf hB7⟩
          case measure=>simp [intOf] <;> omega
     . obtain rfl:j=n1:=by omega
       have hjI:¬ ((j:Int)<(j:Int)):=by omega
       have hTk:Hid (((l.take j).all fun v=>inM m v k)=l.all fun v=>inM m v k):=hid (by rw [List.take_of_length_le (by have:=HN1.o;omega)]);rw [<- hTk.o] at HSk2;generalize ((l.take j).all fun v=>inM m v k)=ball at *;obtain ⟨b3,o3,ha3,hbl3,r3⟩:=HOk.o wp HB6.o;have HDk:=hid (fun wx (g:Bl wp wx)=>HD.o wx (HB6.o.zf g) m.zb[k].own);have HA3:=hid ha3;rw [ha3] at HDk;generalize depM' m m.zb[k].own=dd at *
       have HS10:Hid (∀ W',Bl wp W'->W'.cell? ⟨w.heap.size,0,none⟩=some (.string m.nm)/\W'.cell? ⟨w.heap.size,1,none⟩=some (.slice p.a1 m.vars.length p.c1)/\W'.cell? ⟨w.heap.size,2,none⟩=some (.slice p.a2 m.za.length p.c2)/\W'.cell? ⟨w.heap.size,3,none⟩=some (.slice (some ⟨b3,o3,none⟩) m.zb.length p.c3)/\W'.cell? ⟨w.heap.size,4,none⟩=some (.slice p.a4 m.zc.length p.c4)/\W'.cell? ⟨w.heap.size,5,none⟩=some (.slice p.a5 m.ze.length p.c5)/\W'.cell? ⟨b3,o3+k * 2+1,none⟩=some (.int .i64 m.zb[k].own)):=fun W' g=>by
         obtain ⟨x0,x1,x2,x3,x4,x5,_⟩:=(HB6.o.zf g).box;exact ⟨x0,x1,x2,by rw [<- HA3.o];exact x3,x4,x5,(g.cell (p:=⟨b3,o3+k * 2+1,none⟩) hbl3).trans r3⟩
       generalize m.zb[k].own=ow at *;clear r3 ha3 hTk HI HAk HOk;go_wp2_with fail;refine wp_region_any (by kernel_rfl) ?_;change wpAny _ _ _ _ _ _ _ (World.drew _);refine hld HS10.o (hB0.drew) (fun hHeld=>?_);refine tk 0 rfl ?_;refine tk 1 rfl ?_;refine tk 2 rfl ?_;refine tk 3 rfl ?_;refine tk 4 rfl ?_;refine tk 5 rfl ?_;refine tk 6 rfl ?_;refine tk 7 rfl ?_;refine rd1 8 (fun K hK=>?_);(go_simp;(with_reducible refine (HDk.o _ hB0.drew).mono ?_);rintro e w8 ⟨rfl,hb8⟩;have hB8:Bl wp w8:=yL hB0.drew hb8;go_wp2_with fail);refine nx hK ?_ (fun hH1=>?_);(first | exact HS10.o _ (by assumption) | exact HS10.o _ hB0.drew);clear hK K hHeld;refine tk 9 rfl ?_;refine dn ?_;rotate_left
       all_goals
         cases ball with
         | false =>
          have hF:Hid (comF m l (k+1)=(bst,dst)):=hid (by rw [HSk2.o];rfl);clear HSk2;go_wp2_with fail;go_roundw
          case rel=>exact ⟨k+1,by omega,by go_num,by rw [hF.o],by rw [hF.o],HB6.o.zf hB8⟩
          case measure=>simp [intOf] <;> omega
         | true =>
          cases hdd:decide (dst<dd) with
          | true =>
           have hF:Hid (comF m l (k+1)=((k:Int),dd)):=hid (by rw [HSk2.o,hdd];rfl);clear HSk2;go_wp2_with fail;go_roundw
           case rel=>exact ⟨k+1,by omega,by go_num,by rw [hF.o],by rw [hF.o],HB6.o.zf hB8⟩
           case measure=>simp [intOf] <;> omega
          | false =>
           have hF:Hid (comF m l (k+1)=(bst,dst)):=hid (by rw [HSk2.o,hdd];rfl);clear HSk2;go_wp2_with fail;go_roundw
           case rel=>exact ⟨k+1,by omega,by go_num,by rw [hF.o],by rw [hF.o],HB6.o.zf hB8⟩
           case measure=>simp [intOf] <;> omega
  . obtain rfl:k=m.zb.length:=by omega
    go_wp2_with fail;go_ret;exact ⟨by rw [HE.o];rfl,HB5.o.bel⟩
end Go.Proofs
