/- Walks: 'names' of the program's expand. -/
import Derived.Test.YtfladiadgkfebaaGreatDoorKEmF
import Derived.Test.YtfladiadgkfebaaGreatDoorKEmLM
namespace Go.Proofs
open Go.RowKit Go.Lx Go.Md Go.Shelf Go.Maps Go.BigFrame
open Lib(hid)
set_option maxRecDepth 100000
set_option maxHeartbeats 0
set_option linter.unusedVariables false
theorem nm1_any (y:VarD) (xn:ByteArray) (X:Nat) (w:World) (h:w.cell? ⟨X,0,none⟩=some (.string xn)) (hX:X<w.heap.size) :
   Calls Tryz.prog 57 #[varA y,.pointer (some ⟨X,0,none⟩)] w fun e w'=>e=.returned (.bool (eqS y.nm xn))/\Below w.heap.size w w':=by
 unfold varA
 go_enter Tryz.func57,Tryz.ntmps57
 go_wp2_with fail
 go_ret
 exact ⟨rfl,(Below.refl _ _).alloc (Nat.le_refl _) _⟩
theorem idxfNm {Q:BP} (a:Option Addr) (c:Nat) (l:List VarD) (xn:ByteArray) (X:Nat) (w:World) (h:Sl Q 2 VarE w (.slice a l.length c) l) (hl:l.length<=140737488355328) (hx:w.cell? ⟨X,0,none⟩=some (.string xn)) (hX:X<w.heap.size) :
   Calls Tryz.prog 94 #[.slice a l.length c,.func (.func 57) #[] #[.pointer (some ⟨X,0,none⟩)]] w fun e w'=>e=.returned (.int .i64 (fidx (fun y=>eqS y.nm xn) l))/\Below w.heap.size w w':=by
 have H1:=hid h
 clear h
 go_enter Tryz.func94,Tryz.ntmps94
 go_wp2_with fail
 go_loopw [8] (fun i wr=>∃ k:Nat,k<=l.length/\i=.int .i64 k/\Below w.heap.size w wr/\Hid (∀ j (hj:j<k) (hl:j<l.length),eqS l[j].nm xn=false)) (fun i _=>l.length - (intOf i).toNat)
 case atStart=>exact ⟨0,by omega,rfl,Below.refl _ _,fun j hj=>by omega⟩
 case round =>
  obtain ⟨wo,rfl⟩:=ex1 wr
  obtain ⟨k,hk,rfl,hg,HE⟩:=hrel
  by_cases hlt:k<l.length
  . have hltI:(k:Int)<(l.length:Int):=by omega
    have hi0:(0:Int)<=(k:Int):=by omega
    obtain ⟨b1,o1,ha1,hb1,r0,r1⟩:=H1.o.get hlt
    obtain ⟨y,hy⟩:∃ y,y=l[k]:=⟨_,rfl⟩
    rw [<- hy] at r0 r1
    have HX:=hid hy
    subst ha1
    clear hy
    replace r0:=(hg.cell (p:=⟨b1,o1+k * 2,none⟩) hb1).trans r0
    replace r1:=(hg.cell (p:=⟨b1,o1+k * 2+1,none⟩) hb1).trans r1
    have hxo:=(hg.cell (p:=⟨X,0,none⟩) hX).trans hx
    have HC:=hid (nm1_any y xn X wo hxo (Nat.lt_of_lt_of_le hX hg.size))
    unfold varA at HC
    cases hxy:eqS y.nm xn with
    | true =>
     rw [hxy] at HC
     have HF:Hid (fidx (fun y=>eqS y.nm xn) l=k):=fidx_some hlt (by rw [<- HX.o];exact hxy) fun j hj=>HE.o j hj (by omega)
     clear hxy
     go_wp2_with fail
     refine HC.o.mono ?_
     rintro e w' ⟨rfl,g1⟩
     go_wp2_with fail
     go_ret
     exact ⟨ret_int (by rw [HF.o]),hg.trans (g1.mono hg.size)⟩
    | false =>
     rw [hxy] at HC
     have HF:Hid (∀ j (hj:j<k+1) (hl:j<l.length),eqS l[j].nm xn=false):=fun j hj hl=>by
       by_cases e:j=k
       . subst e;rw [<- HX.o];exact hxy
       . exact HE.o j (by omega) hl
     clear hxy
     go_wp2_with fail
     refine HC.o.mono ?_
     rintro e w' ⟨rfl,g1⟩
     go_wp2_with fail
     go_roundw
     case rel=>exact ⟨k+1,by omega,by go_num,hg.trans (g1.mono hg.size),HF⟩
     case measure=>simp [intOf] <;> omega
  . have HF:Hid (fidx (fun y=>eqS y.nm xn) l=-1):=fidx_none fun j hj=>HE.o j (by omega) hj
    go_wp2_with fail
    go_ret
    exact ⟨ret_int (by rw [HF.o]),hg⟩
theorem contfNm {Q:BP} (a:Option Addr) (c:Nat) (l:List VarD) (xn:ByteArray) (X:Nat) (w:World) (h:Sl Q 2 VarE w (.slice a l.length c) l) (hl:l.length<=140737488355328) (hx:w.cell? ⟨X,0,none⟩=some (.string xn)) (hX:X<w.heap.size) :
   Calls Tryz.prog 56 #[.slice a l.length c,.func (.func 57) #[] #[.pointer (some ⟨X,0,none⟩)]] w fun e w'=>e=.returned (.bool (l.any fun y=>eqS y.nm xn))/\Below w.heap.size w w':=by
 have HI:=hid (idxfNm a c l xn X w h hl hx hX)
 have HA:=hid (fidx_any (fun y:VarD=>eqS y.nm xn) l)
 clear h hx
 generalize fidx (fun y:VarD=>eqS y.nm xn) l=r at HI HA
 generalize l.any (fun y:VarD=>eqS y.nm xn)=R at HA |-
 rcases HA.o with ⟨rfl,h0⟩ | ⟨rfl,rfl⟩
 . go_enter Tryz.func56,Tryz.ntmps56
   go_wp2_with (go_at_call 94;refine HI.o.mono ?_;rintro e w' ⟨rfl,g1⟩)
   go_ret
   exact ⟨rfl,g1⟩
 . go_enter Tryz.func56,Tryz.ntmps56
   go_wp2_with (go_at_call 94;refine HI.o.mono ?_;rintro e w' ⟨rfl,g1⟩)
   go_ret
   exact ⟨rfl,g1⟩
structure NmS (lo:Nat) (V:List VarD) (E:List ByteArray) (a1:Option Addr) (c1:Nat) (a2:Option Addr) (c2:Nat) (w0 w:World):Prop where
 v:Sl (TB lo 89) 2 VarE w (.slice a1 V.length c1) V
 ov:OwnV lo 89 2 w (.slice a1 V.length c1)
 e:Sl (TB lo 9) 1 TxtE w (.slice a2 E.length c2) E
 oe:OwnV lo 9 1 w (.slice a2 E.length c2)
 bel:Below lo w0 w
 hz:lo<=w.heap.size
theorem NmS.below {lo:Nat} {V:List VarD} {E:List ByteArray} {a1:Option Addr} {c1:Nat} {a2:Option Addr} {c2:Nat} {w0 w w':World} (h:NmS lo V E a1 c1 a2 c2 w0 w) (g:Below w.heap.size w w'):NmS lo V E a1 c1 a2 c2 w0 w' :=
 ⟨h.v.kept (VarE.mono (R:=anyB)) (Kept.of_below g) (Kept.of_below g),h.ov.below g,h.e.kept (TxtE.mono (R:=anyB)) (Kept.of_below g) (Kept.of_below g),h.oe.below g,h.bel.trans (g.mono h.hz),Nat.le_trans h.hz g.size⟩
theorem NmS.addV {lo:Nat} {V:List VarD} {E:List ByteArray} {a1:Option Addr} {c1:Nat} {a2:Option Addr} {c2:Nat} {w0 w w':World} (h:NmS lo V E a1 c1 a2 c2 w0 w) {a:Option Addr} {c:Nat} {r:List VarD} (g:GrT lo (· = 89) w w') (ho:OwnV lo 89 2 w' (.slice a (V ++ r).length c)) (hs:Sl (TB lo 89) 2 VarE w' (.slice a (V ++ r).length c) (V ++ r)):NmS lo (V ++ r) E a c a2 c2 w0 w' :=
 ⟨hs,ho,h.e.kept (TxtE.mono (R:=TB lo 9)) (g.keep (by decide)) (g.keep (by decide)),g.own h.oe,h.bel.trans (g.below (Nat.le_refl _) h.hz),Nat.le_trans h.hz g.size⟩
theorem NmS.addE {lo:Nat} {V:List VarD} {E:List ByteArray} {a1:Option Addr} {c1:Nat} {a2:Option Addr} {c2:Nat} {w0 w w':World} (h:NmS lo V E a1 c1 a2 c2 w0 w) {a:Option Addr} {c:Nat} {r:List ByteArray} (g:GrT lo (· = 9) w w') (ho:OwnV lo 9 1 w' (.slice a (E ++ r).length c)) (hs:Sl (TB lo 9) 1 TxtE w' (.slice a (E ++ r).length c) (E ++ r)):NmS lo V (E ++ r) a1 c1 a c w0 w' :=
 ⟨h.v.kept (VarE.mono (R:=TB lo 89)) (g.keep (by decide)) (g.keep (by decide)),g.own h.ov,hs,ho,h.bel.trans (g.below (Nat.le_refl _) h.hz),Nat.le_trans h.hz g.size⟩
def TV (T:TypeId):Prop:=T=89\/T=9
theorem GrT.vV {lo:Nat} {w w':World} (h:GrT lo (· = 89) w w'):GrT lo TV w w':=h.wide (Nat.le_refl _) fun _ h=>.inl h
theorem GrT.vE {lo:Nat} {w w':World} (h:GrT lo (· = 9) w w'):GrT lo TV w w':=h.wide (Nat.le_refl _) fun _ h=>.inr h
theorem notV:¬ TV 42:=by unfold TV;decide
theorem NmS.mono {lo lo':Nat} {V:List VarD} {E:List ByteArray} {a1:Option Addr} {c1:Nat} {a2:Option Addr} {c2:Nat} {w0 w00 w:World} (h:NmS lo V E a1 c1 a2 c2 w0 w) (hl:lo'<=lo) (g:Below lo' w00 w0):NmS lo' V E a1 c1 a2 c2 w00 w :=
 ⟨h.v.weaken (fun _ _ q=>TB.mono q hl) fun _ _ _ h=>h,h.ov.mono hl,h.e.weaken (fun _ _ q=>TB.mono q hl) fun _ _ _ h=>h,h.oe.mono hl,g.trans (h.bel.mono hl),Nat.le_trans hl h.hz⟩
theorem isU_upd (l:List MdlD) (k:Nat):updB (rB l 0) 0 k=isU l k:=by
 unfold updB isU
 by_cases h:k=0
 . subst h;simp
 . rw [if_neg h,beq_eq_false_iff_ne.2 h,Bool.false_or]
theorem take_fold {α β:Type} {f:β->α->β} {b:β} {l:List α} {j:Nat} (h:j<l.length):(l.take (j+1)).foldl f b=f ((l.take j).foldl f b) l[j]:=by
 rw [List.take_succ_eq_append_getElem h,List.foldl_append];rfl
theorem var_sl (w:World) (x:VarD) (T:TypeId):Sl anyB 2 VarE (w.alloc (.cells #[.string x.nm,.int .i64 x.ini] T)) (.slice (some ⟨w.heap.size,0,none⟩) [x].length 1) [x]:=by
 refine .inr ⟨w.heap.size,0,1,rfl,by simp,by simp,trivial,fun i hi=>?_⟩
 obtain rfl:i=0:=by simp at hi;exact hi
 have h:=World.alloc_heap_new w (.cells #[.string x.nm,.int .i64 x.ini] T)
 constructor <;> (unfold World.cell?;simp only [h];rfl)
theorem txt_sl (w:World) (x:ByteArray) (T:TypeId):Sl anyB 1 TxtE (w.alloc (.cells #[.string x] T)) (.slice (some ⟨w.heap.size,0,none⟩) [x].length 1) [x]:=by
 refine .inr ⟨w.heap.size,0,1,rfl,by simp,by simp,trivial,fun i hi=>?_⟩
 obtain rfl:i=0:=by simp at hi;exact hi
 have h:=World.alloc_heap_new w (.cells #[.string x] T)
 unfold TxtE World.cell?;simp only [h];rfl
noncomputable def vaK (l:List MdlD) (i:Nat):List VarD:=(List.range i).foldl (varsS l) []
noncomputable def evK (l:List MdlD) (i:Nat):List ByteArray:=(List.range i).foldl (evsS l) []
theorem vaK_succ (l:List MdlD) (i:Nat):vaK l (i+1)=varsS l (vaK l i) i:=by unfold vaK;rw [List.range_succ,List.foldl_append];rfl
theorem evK_succ (l:List MdlD) (i:Nat):evK l (i+1)=evsS l (evK l i) i:=by unfold evK;rw [List.range_succ,List.foldl_append];rfl
theorem vaK_of {l:List MdlD} {k:Nat} {m:MdlD} (hm:l.getD k D0=m):vaK l (k+1)=if isU l k then m.vars.foldl addV (vaK l k) else vaK l k:=by rw [vaK_succ];unfold varsS;rw [hm]
theorem evK_of {l:List MdlD} {k:Nat} {m:MdlD} (hm:l.getD k D0=m):evK l (k+1)=if isU l k then m.evs.foldl addE (evK l k) else evK l k:=by rw [evK_succ];unfold evsS;rw [hm]
theorem addV_len (acc:List VarD) (v:VarD):(addV acc v).length<=acc.length+1:=by unfold addV;split <;> simp
theorem addE_len (acc:List ByteArray) (v:ByteArray):(addE acc v).length<=acc.length+1:=by unfold addE;split <;> simp
theorem fold_len {α β:Type} {f:List α->β->List α} (h:∀ acc v,(f acc v).length<=acc.length+1):∀ (l:List β) (acc:List α),(l.foldl f acc).length<=acc.length+l.length
 | [],acc=>Nat.le_refl _
 | x :: t,acc=>by
   have:=fold_len h t (f acc x)
   have:=h acc x
   rw [List.foldl_cons,List.length_cons]
   omega
theorem vaK_len {l:List MdlD} (hL:∀ m ∈ l,m.vars.length<=1000):∀ i,i<=l.length->(vaK l i).length<=1000 * i
 | 0,_=>by simp [vaK]
 | i+1,h=>by
   rw [vaK_succ]
   have ih:=vaK_len hL i (by omega)
   unfold varsS
   split
   . have h1:=fold_len addV_len (l.getD i D0).vars (vaK l i)
     have h2:=hL _ (getD_mem (show i<l.length by omega) D0)
     omega
   . omega
theorem evK_len {l:List MdlD} (hL:∀ m ∈ l,m.evs.length<=1000):∀ i,i<=l.length->(evK l i).length<=1000 * i
 | 0,_=>by simp [evK]
 | i+1,h=>by
   rw [evK_succ]
   have ih:=evK_len hL i (by omega)
   unfold evsS
   split
   . have h1:=fold_len addE_len (l.getD i D0).evs (evK l i)
     have h2:=hL _ (getD_mem (show i<l.length by omega) D0)
     omega
   . omega
def NamesP (l:List MdlD) (w:World) (e:Ending) (w':World):Prop:=∃ a1 c1 a2 c2,e=.returned (.tuple #[.slice a1 (allV l).length c1,.slice a2 (allE l).length c2])/\NmS w.heap.size (allV l) (allE l) a1 c1 a2 c2 w w'
theorem names_any (N:Nat) (l:List MdlD) (a:Option Addr) (c LB NB SB cnt:Nat) (w:World) (hll:l.length<=100) (hl0:0<l.length) (hR:∀ m ∈ l,riM m=(0,0,0)) (hsb:∀ x ∈ l,∀ y ∈ x.vers,y.sb.size<=140737488355328) (hfd:∀ x ∈ l,∀ y ∈ x.vers,0<y.sb.size->∃ q,fnd l y.sb=some q) (hA:LibA N l a c LB NB SB cnt w) :
   Calls Tryz.prog 30 #[.pointer (some ⟨LB,0,none⟩)] w (NamesP l w):=by
 have HRe:Hid (Calls Tryz.prog 47 #[.pointer (some ⟨LB,0,none⟩),.int .i64 0] w fun e w'=>e=.returned (.slice (some ⟨w.heap.size,0,none⟩) l.length l.length)/\SeenAt w.heap.size l.length (rB l 0) w'/\Below w.heap.size w w'):=hid (reached_any N l a c LB NB SB cnt 0 w (by omega) (fun x hx=>by have:=(right_len (hR x hx)).2.2.2.1;omega) hsb hfd hA hl0)
 have HA:=hid hA
 have HRt:=hid hR
 have hlb:=hA.lb
 have hnl:=hA.nl
 obtain ⟨iV,hiV,zV0,zV1,zV2⟩:=info_parts info_Var
 obtain ⟨iS,hiS,zS0,zS1,zS2⟩:=info_parts info_Txt
 have hl0I:(0:Int)<(l.length:Int):=by omega
 clear hA hR hsb hfd
 go_enter Tryz.func30,Tryz.ntmps30
 go_upto_region 2 with ((with_reducible refine (HRe.o).mono ?_);rintro e w1 ⟨rfl,hs1,hb1⟩)
 have q0:=hs1.at' 0 hl0
 have q1:=hs1.fr 0 hl0
 have hs2:=hs1.set hl0
 have hB2:Below w.heap.size w (w1.setCell ⟨w.heap.size,0,none⟩ (.bool true)):=hb1.setCell (Nat.le_refl _) _
 have hz2:w.heap.size<w1.heap.size:=hs1.lt
 go_upto_region 3 with fail
 have hz3:w.heap.size<(w1.setCell ⟨w.heap.size,0,none⟩ (.bool true)).heap.size:=by simpa using hz2
 generalize w1.setCell ⟨w.heap.size,0,none⟩ (.bool true)=W2 at *
 have HS2:=hid hs2
 have HB2:=hid hB2
 have hc0:=(HA.o.below hB2).c0
 clear hs1 hs2 hB2 hb1 q0 q1 hz2 HRe
 have hN0:NmS W2.heap.size [] [] none 0 none 0 W2 W2:=⟨.inl ⟨_,_,rfl,rfl⟩,.inl ⟨_,rfl⟩,.inl ⟨_,_,rfl,rfl⟩,.inl ⟨_,rfl⟩,Below.refl _ _,Nat.le_refl _⟩
 have HN0:=hid hN0
 have HLib:=hid fun wx (g:Below W2.heap.size W2 wx)=>(HA.o.below (HB2.o.trans (g.mono (by omega)))).lib
 have HSn:=hid fun wx (g:Below W2.heap.size W2 wx)=>HS2.o.below g
 have HVL:=hid (vaK_len (l:=l) fun m hm=>by have:=(right_len (HRt.o m hm)).1;omega)
 have HEL:=hid (evK_len (l:=l) fun m hm=>by have:=(right_len (HRt.o m hm)).2.1;omega)
 have HVr:Hid (vaK l l.length=allV l/\evK l l.length=allE l):=hid ⟨rfl,rfl⟩
 have hz3':w.heap.size<=W2.heap.size:=by omega
 clear hN0
 go_wp2_with fail
 go_loopw [2,3,20] (fun v2 v3 i wr=>∃ k:Nat,k<=l.length/\i=.int .i64 k/\∃ a1 c1 a2 c2,v2=.slice a1 (vaK l k).length c1/\v3=.slice a2 (evK l k).length c2/\NmS W2.heap.size (vaK l k) (evK l k) a1 c1 a2 c2 W2 wr) (fun _ _ i _=>l.length - (intOf i).toNat)
 case atStart=>exact ⟨0,by omega,rfl,none,0,none,0,rfl,rfl,HN0.o⟩
 case round =>
  clear HN0 hc0
  obtain ⟨wo,rfl⟩:=ex1 wr
  obtain ⟨k,hk,rfl,a1,c1,a2,c2,rfl,rfl,hnm⟩:=hrel
  by_cases hlt:k<l.length
  . have hkI:(k:Int)<(l.length:Int):=by omega
    have hk0:(0:Int)<=(k:Int):=by omega
    obtain ⟨m,hm⟩:=ex2 (l[k])
    have hgd:l.getD k D0=m:=by rw [List.getD_eq_getElem?_getD,List.getElem?_eq_getElem hlt];exact hm
    obtain ⟨b1,o1,e1,hb1,pm,hmo,r0,r1,r2,r3,r4,r5⟩:=(HLib.o wo hnm.bel).get hlt
    rw [hm] at hmo r0 r1 r2 r3 r4 r5
    have hrl:=right_len (HRt.o _ (List.getElem_mem hlt))
    rw [hm] at hrl
    have hus:=(HSn.o wo hnm.bel).at' k hlt
    rw [isU_upd] at hus
    have HV1:=hid (vaK_of (l:=l) hgd)
    have HE1:=hid (evK_of (l:=l) hgd)
    have hvl:=HVL.o k hk
    have hel:=HEL.o k hk
    have HNm:=hid hnm
    have HMo:=hid hmo
    have hzo:=hnm.hz
    have hno:w.heap.size<wo.heap.size:=by omega
    subst e1
    clear hnm hmo hm hgd
    obtain ⟨u,hu⟩:=ex2 (isU l k)
    rw [hu] at hus HV1 HE1
    cases u with
    | false =>
     have HN1:Hid (NmS W2.heap.size (vaK l k) (evK l k) a1 c1 a2 c2 W2 (wo.alloc (.cells #[.string m.nm,.slice pm.a1 m.vars.length pm.c1,.slice pm.a2 m.evs.length pm.c2,.slice pm.a3 m.regs.length pm.c3,.slice pm.a4 m.vers.length pm.c4,.slice pm.a5 m.trns.length pm.c5] 42))):=hid (HNm.o.below (below_al1 wo _))
     go_wp2_with fail
     go_roundw
     case rel=>exact ⟨k+1,by omega,by go_num,a1,c1,a2,c2,by rw [HV1.o];rfl,by rw [HE1.o];rfl,by rw [HV1.o,HE1.o];exact HN1.o⟩
     case measure=>simp [intOf] <;> omega
    | true =>
     obtain ⟨Va,hVa⟩:=ex2 (vaK l k)
     obtain ⟨Ev,hEv⟩:=ex2 (evK l k)
     rw [hVa] at HNm hvl HV1 |-
     rw [hEv] at HNm hel HE1 |-
     have HN1:Hid (NmS W2.heap.size Va Ev a1 c1 a2 c2 W2 (wo.alloc (.cells #[.string m.nm,.slice pm.a1 m.vars.length pm.c1,.slice pm.a2 m.evs.length pm.c2,.slice pm.a3 m.regs.length pm.c3,.slice pm.a4 m.vers.length pm.c4,.slice pm.a5 m.trns.length pm.c5] 42))):=hid (HNm.o.below (below_al1 wo _))
     have hbx:=World.alloc_heap_new wo (mBox m pm)
     unfold mBox at hbx
     have hbw:Below wo.heap.size wo (wo.alloc (.cells #[.string m.nm,.slice pm.a1 m.vars.length pm.c1,.slice pm.a2 m.evs.length pm.c2,.slice pm.a3 m.regs.length pm.c3,.slice pm.a4 m.vers.length pm.c4,.slice pm.a5 m.trns.length pm.c5] 42)):=below_al1 wo _
     go_upto_region 7 with fail
     have hz1:wo.heap.size<(wo.alloc (.cells #[.string m.nm,.slice pm.a1 m.vars.length pm.c1,.slice pm.a2 m.evs.length pm.c2,.slice pm.a3 m.regs.length pm.c3,.slice pm.a4 m.vers.length pm.c4,.slice pm.a5 m.trns.length pm.c5] 42)).heap.size:=by simp
     generalize wo.alloc (.cells #[.string m.nm,.slice pm.a1 m.vars.length pm.c1,.slice pm.a2 m.evs.length pm.c2,.slice pm.a3 m.regs.length pm.c3,.slice pm.a4 m.vers.length pm.c4,.slice pm.a5 m.trns.length pm.c5] 42)=W3 at *
     have HN3:=HN1
     have HM3:=hid fun wx (g:GrT W2.heap.size TV W3 wx)=>(HMo.o.keptN ((hbw.mono (by omega)).trans ((g.below (Nat.le_refl _) HN3.o.hz).mono (by omega))):Mod (fun _=>OldB N) wx m pm)
     have HX3:=hid fun wx (g:GrT W2.heap.size TV W3 wx)=>(mBox.box (g.same hbx notV):Box wx wo.heap.size (.string m.nm) (.slice pm.a1 m.vars.length pm.c1) (.slice pm.a2 m.evs.length pm.c2) (.slice pm.a3 m.regs.length pm.c3) (.slice pm.a4 m.vers.length pm.c4) (.slice pm.a5 m.trns.length pm.c5))
     obtain ⟨x0,x1,x2,x3,x4,x5,_⟩:=HX3.o W3 (GrT.refl _ _ _)
     clear hbw r0 r1 r2 r3 r4 r5 hus HNm HMo HSn
     go_wp2_with fail
     go_loopw [2,33] (fun v2 i wr=>∃ j:Nat,j<=m.vars.length/\i=.int .i64 j/\GrT W2.heap.size TV W3 wr/\∃ a1 c1,v2=.slice a1 ((m.vars.take j).foldl addV Va).length c1/\NmS W2.heap.size ((m.vars.take j).foldl addV Va) Ev a1 c1 a2 c2 W2 wr) (fun _ i _=>m.vars.length - (intOf i).toNat)
     case atStart=>exact ⟨0,by omega,rfl,GrT.refl _ _ _,a1,c1,rfl,HN3.o⟩
     case round =>
      clear x0 x1 x2 x3 x4 x5 HN3 HN1
      obtain ⟨wp,rfl⟩:∃ wo:World,wo=wr:=⟨_,rfl⟩
      obtain ⟨j,hj,rfl,hbj,a1,c1,rfl,hnm⟩:=hrel
      obtain ⟨x0,x1,x2,x3,x4,x5,_⟩:=HX3.o wp hbj
      by_cases hlt:j<m.vars.length
      . have hjI:(j:Int)<(m.vars.length:Int):=by omega
        have hj0:(0:Int)<=(j:Int):=by omega
        obtain ⟨b2,o2,e2,hb2,s0,s1⟩:=(HM3.o wp hbj).vars.get hlt
        have hvj:=fold_len addV_len (m.vars.take j) Va
        have htk:(m.vars.take j).length<=64:=by rw [List.length_take];omega
        have HTk:=hid (take_fold (f:=addV) (b:=Va) hlt)
        obtain ⟨acc,hacc⟩:=ex2 ((m.vars.take j).foldl addV Va)
        rw [hacc] at hnm hvj HTk |-
        obtain ⟨y,hy⟩:=ex2 (m.vars[j])
        rw [hy] at s0 s1 HTk
        have HNm:=hid hnm
        have HBj:=hid hbj
        have HN4:=hid (hnm.below (below_al1 wp (.cells #[.string y.nm,.int .i64 y.ini] 89)))
        have hz4:=hnm.hz
        have hc1:(wp.alloc (.cells #[.string y.nm,.int .i64 y.ini] 89)).cell? ⟨wp.heap.size,0,none⟩=some (.string y.nm):=by simp
        have HCo:=hid (contfNm a1 c1 acc y.nm wp.heap.size (wp.alloc (.cells #[.string y.nm,.int .i64 y.ini] 89)) HN4.o.v (by omega) hc1 (by simp))
        have HB4:=hid (hbj.trans (GrT.of_below (lo:=W2.heap.size) (S:=TV) (below_al1 wp (.cells #[.string y.nm,.int .i64 y.ini] 89))))
        have hbx:(wp.alloc (.cells #[.string y.nm,.int .i64 y.ini] 89)).heap[wp.heap.size]? = some (.cells #[.string y.nm,.int .i64 y.ini] 89):=World.alloc_heap_new _ _
        have HBx:=hid hbx
        have hpm:=e2
        clear hnm hbj hy hacc hbx
        rw [hpm]
        go_upto_region 10 with fail
        clear s0 s1 hb2
        have hz5:wp.heap.size<(wp.alloc (.cells #[.string y.nm,.int .i64 y.ini] 89)).heap.size:=by simp
        generalize wp.alloc (.cells #[.string y.nm,.int .i64 y.ini] 89)=W4 at *
        have hz6:=HN4.o.hz
        cases hf:acc.any (fun y'=>eqS y'.nm y.nm) with
        | true =>
         rw [hf] at HCo
         have hE:addV acc y=acc:=by unfold addV;rw [if_pos hf]
         have HE9:=hid hE
         clear hf hE
         go_wp2_with ((with_reducible refine (HCo.o).mono ?_);rintro e w5 ⟨rfl,g5⟩)
         have HN5:=hid (HN4.o.below g5)
         have HB5:=hid (HB4.o.trans (GrT.of_below g5))
         go_roundw
         case rel=>exact ⟨j+1,by omega,by go_num,HB5.o,a1,c1,by rw [HTk.o,HE9.o],by rw [HTk.o,HE9.o];exact HN5.o⟩
         case measure=>simp [intOf] <;> omega
        | false =>
         rw [hf] at HCo
         have hE:addV acc y=acc ++ [y]:=by unfold addV;rw [if_neg (by rw [hf];decide)]
         have HE9:=hid hE
         clear hf hE
         go_upto_region 11 with ((with_reducible refine (HCo.o).mono ?_);rintro e w5 ⟨rfl,g5⟩)
         have HN5:=hid (HN4.o.below g5)
         have HB5:=hid (HB4.o.trans (GrT.of_below g5))
         have hbx5:=(g5.block _ hz5).trans HBx.o
         have q0:w5.cell? ⟨wp.heap.size,0,none⟩=some (.string y.nm):=by unfold World.cell?;simp only [hbx5];rfl
         have q1:w5.cell? ⟨wp.heap.size,1,none⟩=some (.int .i64 y.ini):=by unfold World.cell?;simp only [hbx5];rfl
         have hz8:=HN5.o.hz
         have hz9:=g5.size
         clear hbx5 g5
         go_wp2_with (at_builtin;refine wpList_append_sl VarE.moves _ rfl _ _ 37 rfl 89 iV _ 24 Tryz.underlying37 hiV zV0 zV1 zV2 rfl (by decide) (by decide) rfl rfl (HN5.o.below (below_al1 w5 _)).v (HN5.o.below (below_al1 w5 _)).ov (var_sl w5 y _) (by simp;omega) (by simp;omega) ?_;intro a6 c6 w6 ho6 hg6 hs6)
         have HN6:=hid ((HN5.o.below (below_al1 w5 (.cells #[.string y.nm,.int .i64 y.ini] 89))).addV hg6 ho6 (hs6 trivial))
         have HB6:=hid ((HB5.o.trans (GrT.of_below (below_al1 w5 (.cells #[.string y.nm,.int .i64 y.ini] 89)))).trans hg6.vV)
         clear ho6 hg6 hs6
         go_roundw
         case rel=>exact ⟨j+1,by omega,by go_num,HB6.o,a6,c6,by rw [HTk.o,HE9.o,List.length_append];rfl,by rw [HTk.o,HE9.o];exact HN6.o⟩
         case measure=>simp [intOf] <;> omega
      . obtain rfl:j=m.vars.length:=by omega
        rw [List.take_length] at *
        have hvj:=fold_len addV_len m.vars Va
        obtain ⟨Vb,hVb⟩:=ex2 (m.vars.foldl addV Va)
        rw [hVb] at hnm hvj HV1 |-
        have HNm:=hid hnm
        have HBj:=hid hbj
        clear hnm hbj hlt hVb
        go_wp2_with fail
        go_loopw [3,49] (fun v3 i wr=>∃ j:Nat,j<=m.evs.length/\i=.int .i64 j/\GrT W2.heap.size TV W3 wr/\∃ a2 c2,v3=.slice a2 ((m.evs.take j).foldl addE Ev).length c2/\NmS W2.heap.size Vb ((m.evs.take j).foldl addE Ev) a1 c1 a2 c2 W2 wr) (fun _ i _=>m.evs.length - (intOf i).toNat)
        case atStart=>exact ⟨0,by omega,rfl,HBj.o,a2,c2,rfl,HNm.o⟩
        case round =>
         clear x0 x1 x2 x3 x4 x5 HNm HBj
         obtain ⟨wp,rfl⟩:∃ wo:World,wo=wr:=⟨_,rfl⟩
         obtain ⟨j,hj,rfl,hbj,a2,c2,rfl,hnm⟩:=hrel
         obtain ⟨x0,x1,x2,x3,x4,x5,_⟩:=HX3.o wp hbj
         by_cases hlt:j<m.evs.length
         . have hjI:(j:Int)<(m.evs.length:Int):=by omega
           have hj0:(0:Int)<=(j:Int):=by omega
           obtain ⟨b2,o2,e2,hb2,s0⟩:=(HM3.o wp hbj).evs.get hlt
           have hej:=fold_len addE_len (m.evs.take j) Ev
           have htk:(m.evs.take j).length<=64:=by rw [List.length_take];omega
           have HTk:=hid (take_fold (f:=addE) (b:=Ev) hlt)
           obtain ⟨acc,hacc⟩:=ex2 ((m.evs.take j).foldl addE Ev)
           rw [hacc] at hnm hej HTk |-
           obtain ⟨y,hy⟩:=ex2 (m.evs[j])
           rw [hy] at s0 HTk
           have HNm:=hid hnm
           have HBj:=hid hbj
           have hz4:=hnm.hz
           have HCo:=hid (slCont_any a2 c2 acc y wp (SlS.sl.2 hnm.e) (by omega))
           clear hnm hbj hy hacc
           rw [e2]
           cases hf:inL acc y with
           | true =>
            rw [hf] at HCo
            have hE:addE acc y=acc:=by unfold addE;rw [if_pos (show acc.any (eqS y)=true from hf)]
            have HE9:=hid hE
            clear hf hE
            go_wp2_with ((with_reducible refine (HCo.o).mono ?_);rintro e w5 ⟨rfl,rfl⟩)
            go_roundw
            case rel=>exact ⟨j+1,by omega,by go_num,HBj.o,a2,c2,by rw [HTk.o,HE9.o],by rw [HTk.o,HE9.o];exact HNm.o⟩
            case measure=>simp [intOf] <;> omega
           | false =>
            rw [hf] at HCo
            have hE:addE acc y=acc ++ [y]:=by unfold addE;rw [if_neg (by unfold inL at hf;rw [hf];decide)]
            have HE9:=hid hE
            clear hf hE
            go_upto_region 17 with ((with_reducible refine (HCo.o).mono ?_);rintro e w5 ⟨rfl,rfl⟩)
            go_wp2_with (at_builtin;refine wpList_append_sl TxtE.moves _ rfl _ _ 28 rfl 9 iS _ 16 Tryz.underlying28 hiS zS0 zS1 zS2 rfl (by decide) (by decide) rfl rfl (HNm.o.below (below_al1 wp _)).e (HNm.o.below (below_al1 wp _)).oe (txt_sl wp y _) (by simp;omega) (by simp;omega) ?_;intro a6 c6 w6 ho6 hg6 hs6)
            have HN6:=hid ((HNm.o.below (below_al1 wp (.cells #[.string y] 9))).addE hg6 ho6 (hs6 trivial))
            have HB6:=hid ((HBj.o.trans (GrT.of_below (below_al1 wp (.cells #[.string y] 9)))).trans hg6.vE)
            clear ho6 hg6 hs6
            go_roundw
            case rel=>exact ⟨j+1,by omega,by go_num,HB6.o,a6,c6,by rw [HTk.o,HE9.o,List.length_append];rfl,by rw [HTk.o,HE9.o];exact HN6.o⟩
            case measure=>simp [intOf] <;> omega
         . obtain rfl:j=m.evs.length:=by omega
           rw [List.take_length] at *
           obtain ⟨Eb,hEb⟩:=ex2 (m.evs.foldl addE Ev)
           rw [hEb] at hnm HE1 |-
           have HNm:=hid hnm
           clear hnm hbj hlt hEb
           go_wp2_with fail
           go_roundw
           case rel=>exact ⟨k+1,by omega,by go_num,a1,c1,a2,c2,by rw [HV1.o];rfl,by rw [HE1.o];rfl,by rw [HV1.o,HE1.o];exact HNm.o⟩
           case measure=>simp [intOf] <;> omega
  . obtain rfl:k=l.length:=by omega
    rw [HVr.o.1,HVr.o.2] at *
    have HNm:=hid hnm
    clear hnm
    go_wp2_with fail
    refine bodyPost_ret (results_tmp2 rfl _ _ _) rfl ⟨a1,c1,a2,c2,rfl,HNm.o.mono hz3' HB2.o⟩
end Go.Proofs
