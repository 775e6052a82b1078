/- Walks: what 'Right' leans on, the small ones. -/
import Derived.Test.YtfladiadgkfebaaGreatDoorKMdIJ
import Derived.Deep.RegionLaw
import Derived.Deep.DeepCutAuto
namespace Go.Proofs
open Go.RowKit Go.Lx Go.Md Go.Shelf
open Lib(hid)
set_option maxRecDepth 100000
set_option maxHeartbeats 0
set_option linter.unusedVariables false
theorem nat_is (n m:Nat):((n:Int) == (m:Int))=(n == m):=by rw [Bool.eq_iff_iff];simp;omega
theorem nat_is2 (n:Nat):((n:Int) == 2)=(n == 2):=nat_is n 2
theorem nmd_is (s:ByteArray):nmd s=(s.toList.isEmpty || (isT s.data.toList == 2)):=by
 unfold nmd isNm
 rw [show (s.size == 0)=s.toList.isEmpty by
   rw [toList_eq',Bool.eq_iff_iff,beq_iff_eq,List.isEmpty_iff,<- List.length_eq_zero_iff];simp]
theorem named_any (s:ByteArray) (w:World) (hT:Tab w) (hs:s.size<=140737488355328) :
   Calls Tryz.prog 104 #[.string s] w fun e w'=>e=.returned (.bool (nmd s))/\Bl w w':=by
 have HN:Hid (nmd s=(s.toList.isEmpty || (isT s.data.toList == 2))):=nmd_is s
 have HT:=hid hT
 clear hT
 cases he:s.toList.isEmpty with
 | true =>
  go_enter Tryz.func104,Tryz.ntmps104
  go_wp2_with fail
  go_ret
  exact ⟨ret_bool (by rw [HN.o,he];rfl),Below.refl _ _⟩
 | false =>
  go_enter Tryz.func104,Tryz.ntmps104
  go_wp2_with fail
  refine (lis_any s _ HT.o hs).mono ?_
  rintro e w' ⟨rfl,hb⟩
  go_wp2_with fail
  go_ret
  exact ⟨ret_bool (by rw [HN.o,he,nat_is2];rfl),hb⟩
def idxI (l:List ByteArray) (s:ByteArray):Int:=match l.findIdx? (eqS s) with | some i=>(i:Int) | none=>-1
theorem index_any {Q:BP} (a:Option Addr) (c:Nat) (l:List ByteArray) (s:ByteArray) (w:World) (h:SlS Q w (.slice a l.length c) l) (hl:l.length<=140737488355328) :
   Calls Tryz.prog 95 #[.slice a l.length c,.string s] w fun e w'=>e=.returned (.int .i64 (idxI l s))/\w=w':=by
 have H1:=hid h
 clear h
 go_enter Tryz.func95,Tryz.ntmps95
 go_wp2_with fail
 go_loop [8] (fun i=>∃ k:Nat,k<=l.length/\i=.int .i64 k/\Hid (∀ j (hj:j<k) (hl:j<l.length),eqS s l[j]=false)) (fun i=>l.length - (intOf i).toNat)
 case atStart=>exact ⟨0,by omega,rfl,fun j hj=>by omega⟩
 case round =>
  obtain ⟨k,hk,rfl,HE⟩:=hrel
  by_cases hlt:k<l.length
  . have hltI:(k:Int)<(l.length:Int):=by omega
    have hi0:(0:Int)<=(k:Int):=by omega
    obtain ⟨b1,o1,ha1,hb1,hc1⟩:=H1.o.get hlt
    obtain ⟨x,hx⟩:∃ x,x=l[k]:=⟨_,rfl⟩
    rw [<- hx] at hc1
    have HX:=hid hx
    subst ha1
    clear hx
    cases hxy:eqS s x with
    | true =>
     have hxy':(s.toList == x.toList)=true:=hxy
     have HF:Hid (idxI l s=k):=by
       unfold Hid idxI
       rw [show l.findIdx? (eqS s)=some k from ?_]
       rw [List.findIdx?_eq_some_iff_getElem]
       exact ⟨hlt,by rw [<- HX.o];exact hxy,fun j hj=>by rw [HE.o j hj (by omega)];decide⟩
     clear hxy
     go_wp2_with fail
     go_ret
     exact ⟨ret_int (by rw [HF.o]),rfl⟩
    | false =>
     have hxy':(s.toList == x.toList)=false:=hxy
     have HF:Hid (∀ j (hj:j<k+1) (hl:j<l.length),eqS s l[j]=false):=fun j hj hl=>by
       by_cases e:j=k
       . subst e;rw [<- HX.o];exact hxy
       . exact HE.o j (by omega) hl
     clear hxy
     go_wp2_with fail
     go_round
     case rel=>exact ⟨k+1,by omega,by go_num,HF⟩
     case measure=>simp [intOf] <;> omega
  . have HF:Hid (idxI l s=-1):=by
      unfold Hid idxI
      rw [show l.findIdx? (eqS s)=none from ?_]
      rw [List.findIdx?_eq_none_iff]
      intro x hx
      obtain ⟨j,hj,rfl⟩:=List.getElem_of_mem hx
      exact HE.o j (by omega) hj
    go_wp2_with fail
    go_ret
    exact ⟨ret_int (by rw [HF.o]),rfl⟩
theorem inL_find (l:List ByteArray) (s:ByteArray):inL l s=(l.findIdx? (eqS s)).isSome:=by
 unfold inL
 induction l with
 | nil=>rfl
 | cons x t ih =>
  rw [List.any_cons,List.findIdx?_cons,ih]
  cases eqS s x <;> simp
theorem slCont_any {Q:BP} (a:Option Addr) (c:Nat) (l:List ByteArray) (s:ByteArray) (w:World) (h:SlS Q w (.slice a l.length c) l) (hl:l.length<=140737488355328) :
   Calls Tryz.prog 58 #[.slice a l.length c,.string s] w fun e w'=>e=.returned (.bool (inL l s))/\w=w':=by
 have HI:=hid (index_any a c l s w h hl)
 have HX:=hid (inL_find l s)
 clear h
 unfold idxI at HI
 cases hf:l.findIdx? (eqS s) with
 | none =>
  rw [hf] at HI HX
  go_enter Tryz.func58,Tryz.ntmps58
  go_wp2_with (go_at_call 95;refine HI.o.mono ?_;rintro e w' ⟨rfl,rfl⟩)
  go_ret
  exact ⟨ret_bool (by rw [HX.o];rfl),rfl⟩
 | some k =>
  rw [hf] at HI HX
  have hk0:(0:Int)<=(k:Int):=by omega
  go_enter Tryz.func58,Tryz.ntmps58
  go_wp2_with (go_at_call 95;refine HI.o.mono ?_;rintro e w' ⟨rfl,rfl⟩)
  go_ret
  exact ⟨ret_bool (by rw [HX.o];rfl),rfl⟩
theorem events_any {Q:Nat->BP} {Q':BP} (m:MdlD) (p:Ph) (a:Option Addr) (c:Nat) (l:List ByteArray) (w:World) (h:Mod Q w m p) (hm:m.evs.length<=140737488355328) (h1:SlS Q' w (.slice a l.length c) l) (hl:l.length<=140737488355328) :
   Calls Tryz.prog 109 #[mdV m p,.slice a l.length c] w fun e w'=>e=.returned (.bool (evsG m.evs [] l))/\Bl w w':=by
 unfold mdV
 have HB:Hid (Bl w (w.alloc (.cells #[.string m.nm,.slice p.a1 m.vars.length p.c1,.slice p.a2 m.evs.length p.c2,.slice p.a3 m.regs.length p.c3,.slice p.a4 m.vers.length p.c4,.slice p.a5 m.trns.length p.c5] 42))):=(Below.refl _ w).alloc (Nat.le_refl _) _
 have HC:=hid (fun s=>slCont_any p.a2 p.c2 m.evs s _ (h.evs.kept (Kept.of_below HB.o)) hm)
 have H1:=hid (h1.kept (Kept.of_below HB.o))
 have HCap:Hid (∀ {k:Nat},k<l.length->l.length<=c):=fun hk=>h1.cap (by omega)
 clear h h1
 go_enter Tryz.func109,Tryz.ntmps109
 go_wp2_with fail
 go_loop [9] (fun i=>∃ k:Nat,k<=l.length/\i=.int .i64 k/\Hid (evsG m.evs [] l=evsG m.evs (l.take k) (l.drop k))) (fun i=>l.length - (intOf i).toNat)
 case atStart=>exact ⟨0,by omega,rfl,(show Hid _ from rfl)⟩
 case round =>
  obtain ⟨k,hk,rfl,HE⟩:=hrel
  by_cases hlt:k<l.length
  . have hltI:(k:Int)<(l.length:Int):=by omega
    have hi0:(0:Int)<=(k:Int):=by omega
    have hleI:(k:Int)<=(l.length:Int):=by omega
    obtain ⟨b1,o1,ha1,hb1,hc1⟩:=H1.o.get hlt
    have HD:=hid (evsG_drop (ev:=m.evs) hlt)
    obtain ⟨x,hx⟩:∃ x,x=l[k]:=⟨_,rfl⟩
    rw [<- hx] at hc1 HD
    have HC2:=hid (slCont_any a c (l.take k) x _ (H1.o.take hk) (by rw [List.length_take_of_le hk];omega))
    subst ha1
    clear hx
    have hcapI:(k:Int)<=(c:Int):=by have:=HCap.o hlt;omega
    rw [List.length_take_of_le hk] at HC2
    cases hi:inL m.evs x with
    | false =>
     go_wp2_with fail
     refine (HC.o x).mono ?_
     rintro e w' ⟨rfl,rfl⟩
     rw [hi]
     go_wp2_with fail
     go_ret
     exact ⟨ret_bool (by rw [HE.o,HD.o,hi];rfl),HB.o⟩
    | true =>
     go_wp2_with fail
     refine (HC.o x).mono ?_
     rintro e w' ⟨rfl,rfl⟩
     rw [hi]
     go_wp2_with fail
     refine HC2.o.mono ?_
     rintro e w' ⟨rfl,rfl⟩
     cases hj:inL (l.take k) x with
     | false =>
      go_wp2_with fail
      go_round
      case rel=>exact ⟨k+1,by omega,by go_num,(show Hid _ from by unfold Hid;rw [HE.o,HD.o,hi,hj];rfl)⟩
      case measure=>simp [intOf] <;> omega
     | true =>
      go_wp2_with fail
      go_ret
      exact ⟨ret_bool (by rw [HE.o,HD.o,hi,hj];rfl),HB.o⟩
  . go_wp2_with fail
    go_ret
    exact ⟨ret_bool (by rw [HE.o,List.drop_eq_nil_of_le (by omega)];rfl),HB.o⟩
theorem state_any {Q:Nat->BP} (m:MdlD) (p:Ph) (v:Int) (w:World) (h:Mod Q w m p) (hm:m.vers.length<=140737488355328) :
   Calls Tryz.prog 105 #[mdV m p,.int .i64 v] w fun e w'=>e=.returned (.bool (stM m v))/\Bl w w':=by
 unfold mdV
 by_cases h0:0<=v
 . by_cases h1:v<m.vers.length
   . obtain ⟨k,rfl⟩:∃ k:Nat,v=k:=⟨v.toNat,by omega⟩
     have hlt:k<m.vers.length:=by omega
     obtain ⟨b,o,ha,hb,dv,hs,hc⟩:=h.vers.get hlt
     have HS:Hid (stM m k=(m.vers[k].kd == 1)):=by
       unfold Hid Md.stM
       simp [hlt]
     have hk1:=hc.2.1
     generalize m.vers[k].kd=kd at hk1 HS
     clear hs hc h
     rw [ha]
     clear ha
     go_enter Tryz.func105,Tryz.ntmps105
     go_wp2_with fail
     go_ret
     exact ⟨ret_bool (by rw [HS.o];exact nat_is kd 1),(Below.refl _ _).alloc (Nat.le_refl _) _⟩
   . have HS:Hid (stM m v=false):=by
       unfold Hid Md.stM
       rw [show m.vers[v.toNat]? = none from List.getElem?_eq_none (by omega)]
       simp
     clear h
     go_enter Tryz.func105,Tryz.ntmps105
     go_wp2_with fail
     go_ret
     exact ⟨ret_bool (by rw [HS.o]),(Below.refl _ _).alloc (Nat.le_refl _) _⟩
 . have HS:Hid (stM m v=false):=by
     unfold Hid Md.stM
     simp [h0]
   clear h
   go_enter Tryz.func105,Tryz.ntmps105
   go_wp2_with fail
   go_ret
   exact ⟨ret_bool (by rw [HS.o]),(Below.refl _ _).alloc (Nat.le_refl _) _⟩
theorem around_any {Q:Nat->BP} (m:MdlD) (p:Ph) (k:Nat) (w:World) (h:Mod Q w m p) (hU:UpOk m) (hlt:k<m.vers.length) (hm:m.vers.length<=140737488355328) (hm2:m.regs.length<=140737488355328) :
   Calls Tryz.prog 123 #[mdV m p,.int .i64 k] w fun e w'=>e=.returned (.int .i64 (arM m k))/\Bl w w':=by
 unfold mdV
 have hltI:(k:Int)<(m.vers.length:Int):=by omega
 have hi0:(0:Int)<=(k:Int):=by omega
 obtain ⟨b,o,ha,hb,dv,hs,r0,r1,r2,r3,r4,r5,r6,r7⟩:=h.vers.get hlt
 obtain ⟨da,dc,rfl⟩:=hs.len
 have hu:=hU.rg m.vers[k] (List.getElem_mem hlt)
 have HA:Hid (arM m k=if 0<=m.vers[k].ofv then m.vers[k].ofv else match m.regs[m.vers[k].rg.toNat]? with | some r=>r.own | none=>-1):=by
   unfold Hid arM
   rw [show m.vers[(k:Int).toNat]? = some m.vers[k] by simp [hlt]]
   rfl
 have HR:=hid (fun (j:Nat) (hj:j<m.regs.length)=>h.regs.get hj)
 generalize m.vers[k]=x at r0 r1 r2 r3 r4 r5 r6 r7 hu HA hs
 generalize hdl:x.df.length=dn at r6
 clear hs
 by_cases hof:0<=x.ofv
 . have HA2:Hid (arM m k=x.ofv):=HA.o.trans (if_pos hof)
   clear hu HA h
   rw [ha]
   clear ha
   go_enter Tryz.func123,Tryz.ntmps123
   go_wp2_with fail
   go_ret
   exact ⟨ret_int (by rw [HA2.o]),((Below.refl _ _).alloc (Nat.le_refl _) _).alloc (by simp) _⟩
 . rcases hu with hu | ⟨_,hr0,hr1⟩
   . omega
   . obtain ⟨j,hj⟩:∃ j:Nat,x.rg=j:=⟨x.rg.toNat,by omega⟩
     have hjl:j<m.regs.length:=by omega
     obtain ⟨b2,o2,ha2,hb2,s0,s1⟩:=HR.o j hjl
     have HA2:Hid (arM m k=m.regs[j].own):=by
       refine HA.o.trans ((if_neg hof).trans ?_)
       rw [hj]
       simp [hjl]
     generalize m.regs[j]=y at s0 s1 HA2
     rw [hj] at r2
     have hj0:(0:Int)<=(j:Int):=by omega
     have hj1:(j:Int)<(m.regs.length:Int):=by omega
     clear hj hr0 hr1 HA h HR
     rw [ha,ha2]
     clear ha ha2
     go_enter Tryz.func123,Tryz.ntmps123
     go_wp2_with fail
     go_quiet (fail)
     go_wp2_with fail
     go_ret
     exact ⟨ret_int (by rw [HA2.o]),below_drewN (((Below.refl _ _).alloc (Nat.le_refl _) _).alloc (by simp) _) _⟩
theorem dpM_up {m:MdlD} {f:Nat} {v:Int} (h:0<=v):dpM m (f+1) v=dpM m f (arM m v)+1:=by
 rw [dpM,if_neg (by omega)]
theorem dpM_end {m:MdlD} {f:Nat} {v:Int} (h:v<0):dpM m f v=0:=by
 cases f with
 | zero=>rfl
 | succ f=>rw [dpM,if_pos h]
theorem depth_any {Q:Nat->BP} (m:MdlD) (p:Ph) (k:Nat) (w:World) (h:Mod Q w m p) (hU:UpOk m) (hlt:k<m.vers.length) (hm:m.vers.length<=140737488355328) (hm2:m.regs.length<=140737488355328) :
   Calls Tryz.prog 111 #[mdV m p,.int .i64 k] w fun e w'=>e=.returned (.int .i64 (deM m k:Nat))/\Bl w w':=by
 have HC:=hid (fun wx (hb:Bl w wx) (j:Nat) (hj:j<m.vers.length)=>around_any m p j wx (h.below hb) hU hj hm hm2)
 have HL:=hid (arM_lt hU)
 have HD:Hid (deM m k=dpM m 65 (arM m k)):=by unfold Hid;rfl
 have HB0:=hid (box6 w m p)
 unfold mdV at HC |-
 clear h hU
 go_enter Tryz.func111,Tryz.ntmps111
 go_wp2_with fail
 refine (HC.o _ ((Below.refl _ w).alloc (Nat.le_refl _) _) k hlt).mono ?_
 rintro e w1 ⟨rfl,g1⟩
 have G1:Bl w w1:=((Below.refl _ w).alloc (Nat.le_refl _) _).trans (g1.mono (by simp))
 have HB1:=hid (HB0.o.below g1 (by simp))
 clear HB0
 go_wp2_with fail
 go_loopw [1,5] (fun v i wr=>∃ (j:Nat) (u:Int),j<=65/\v=.int .i64 u/\i=.int .i64 j/\u<m.vers.length/\Hid (deM m k=j+dpM m (65 - j) u)/\Bl w wr/\Box wr w.heap.size (.string m.nm) (.slice p.a1 m.vars.length p.c1) (.slice p.a2 m.evs.length p.c2) (.slice p.a3 m.regs.length p.c3) (.slice p.a4 m.vers.length p.c4) (.slice p.a5 m.trns.length p.c5)) (fun _ i _=>65 - (intOf i).toNat)
 case atStart=>exact ⟨0,_,by omega,rfl,rfl,HL.o _,(show Hid _ from by unfold Hid;rw [HD.o];simp),G1,HB1.o⟩
 case round =>
  obtain ⟨wo,rfl⟩:=ex1 wr
  obtain ⟨j,u,hj,rfl,rfl,hu,HE,hg,hbx⟩:=hrel
  have HX:=hid hbx
  obtain ⟨b0,b1,b2,b3,b4,b5,f0,f1,f2,f3,f4,f5⟩:=hbx
  by_cases h0:0<=u
  . by_cases h1:j<=64
    . obtain ⟨n,rfl⟩:∃ n:Nat,u=n:=⟨u.toNat,by omega⟩
      have h1I:(j:Int)<=64:=by omega
      have hE2:Hid (deM m k=(j+1:Nat)+dpM m (65 - (j+1)) (arM m n)):=by
        unfold Hid
        rw [HE.o,show 65 - j=(65 - (j+1))+1 by omega,dpM_up h0]
        omega
      clear HE
      go_wp2_with fail
      refine (HC.o _ hg n (by omega)).mono ?_
      rintro e w2 ⟨rfl,g2⟩
      go_wp2_with fail
      go_roundw
      case rel=>exact ⟨j+1,_,by omega,rfl,by go_num,HL.o _,hE2,hg.trans (g2.mono hg.size),HX.o.below g2 (by have:=HX.o.sl;omega)⟩
      case measure=>simp [intOf] <;> omega
    . obtain rfl:j=65:=by omega
      go_wp2_with fail
      go_ret
      exact ⟨ret_int (by rw [HE.o];simp [dpM]),hg⟩
  . have h0':decide (0<=u)=false:=by simpa using h0
    go_wp2_with fail
    go_ret
    exact ⟨ret_int (by rw [HE.o,dpM_end (by omega)];simp),hg⟩
structure MBox (Q:Nat->BP) (w:World) (m:MdlD) (p:Ph) (H:Nat):Prop where
 mod:Mod Q w m p
 box:Box w H (.string m.nm) (.slice p.a1 m.vars.length p.c1) (.slice p.a2 m.evs.length p.c2) (.slice p.a3 m.regs.length p.c3) (.slice p.a4 m.vers.length p.c4) (.slice p.a5 m.trns.length p.c5)
theorem MBox.below {Q:Nat->BP} {w w':World} {m:MdlD} {p:Ph} {H:Nat} (h:MBox Q w m p H) (hb:Bl w w'):MBox Q w' m p H:=⟨h.mod.below hb,h.box.below hb h.box.sl⟩
theorem MBox.made {Q:Nat->BP} {w:World} {m:MdlD} {p:Ph} (h:Mod Q w m p):MBox Q (w.alloc (.cells #[.string m.nm,.slice p.a1 m.vars.length p.c1,.slice p.a2 m.evs.length p.c2,.slice p.a3 m.regs.length p.c3,.slice p.a4 m.vers.length p.c4,.slice p.a5 m.trns.length p.c5] 42)) m p w.heap.size:=⟨h.below ((Below.refl _ w).alloc (Nat.le_refl _) _),box6 w m p⟩
def varA (x:VarD):Value:=.agg #[.string x.nm,.int .i64 x.ini]
def regA (x:RegD):Value:=.agg #[.string x.nm,.int .i64 x.own]
theorem lies_any {Q:Nat->BP} (m:MdlD) (p:Ph) (x:VerD) (a:Option Addr) (c:Nat) (w:World) (h:Mod Q w m p) (hm:MdlOk m) :
   Calls Tryz.prog 108 #[mdV m p,verA x a c] w fun e w'=>e=.returned (.bool (liesM m x))/\Bl w w':=by
 have l4:=hm.vers
 have l3:=hm.regs
 have HC:=hid (fun wx (hb:Bl w wx) (v:Int)=>state_any m p v wx (h.below hb) l4)
 have HL:Hid (liesM m x=if x.kd=10\/x.kd=11 then x.rg == -1 && Md.stM m x.ofv else x.ofv == -1 && decide (0<=x.rg) && decide (x.rg<m.regs.length)):=by unfold Hid;rfl
 unfold mdV at HC
 unfold mdV verA
 generalize liesM m x=R at HL |-
 generalize x.df.length=dn
 obtain ⟨xnm,xkd,xrg,xof,xen,xex,xdf,xsb⟩:=x
 simp only at HL |-
 clear h hm
 by_cases h10:xkd=10\/xkd=11
 . have hL2:Hid (R=(xrg == -1 && Md.stM m xof)):=by unfold Hid;rw [HL.o,if_pos h10]
   clear HL
   generalize hst:Md.stM m xof=st at hL2
   have HS:=hid hst
   clear hst
   rcases h10 with rfl | rfl
   all_goals
     go_enter Tryz.func108,Tryz.ntmps108
     go_wp2_with (go_at_call 105;refine (HC.o _ (below_al2 w _ _) _).mono ?_;rintro e w' ⟨rfl,g1⟩;rw [HS.o])
     all_goals
       go_ret
       refine ⟨ret_bool ?_,?_⟩
       . rw [hL2.o];simp_all
       . first | exact below_box2 g1 | exact below_al2 w _ _
 . have h10':((xkd:Int) == 10)=false:=by simp;omega
   have h11':((xkd:Int) == 11)=false:=by simp;omega
   have hL2:Hid (R=(xof == -1 && decide (0<=xrg) && decide (xrg<m.regs.length))):=by unfold Hid;rw [HL.o,if_neg h10]
   clear HL h10
   go_enter Tryz.func108,Tryz.ntmps108
   go_wp2_with fail
   all_goals
     go_ret
     refine ⟨ret_bool ?_,below_al2 w _ _⟩
     rw [hL2.o];simp_all <;> omega
theorem vars11_any (y:VarD) (xn:ByteArray) (X:Nat) (w:World) (h:w.cell? ⟨X,0,none⟩=some (.string xn)) (hX:X<w.heap.size) :
   Calls Tryz.prog 99 #[varA y,.pointer (some ⟨X,0,none⟩)] w fun e w'=>e=.returned (.bool (eqS y.nm xn))/\Bl w w':=by
 unfold varA
 go_enter Tryz.func99,Tryz.ntmps99
 go_wp2_with fail
 go_ret
 exact ⟨rfl,(Below.refl _ _).alloc (Nat.le_refl _) _⟩
def fidx {α:Type} (f:α->Bool) (l:List α):Int:=match l.findIdx? f with | some i=>(i:Int) | none=>-1
theorem fidx_some {α:Type} {f:α->Bool} {l:List α} {k:Nat} (h:k<l.length) (hk:f l[k]=true) (hb:∀ j (hj:j<k),f (l[j]'(by omega))=false):fidx f l=k:=by
 unfold fidx
 rw [show l.findIdx? f=some k from ?_]
 rw [List.findIdx?_eq_some_iff_getElem]
 exact ⟨h,hk,fun j hj=>by rw [hb j hj];decide⟩
theorem fidx_none {α:Type} {f:α->Bool} {l:List α} (hb:∀ j (hj:j<l.length),f l[j]=false):fidx f l=-1:=by
 unfold fidx
 rw [show l.findIdx? f=none from ?_]
 rw [List.findIdx?_eq_none_iff]
 intro x hx
 obtain ⟨j,hj,rfl⟩:=List.getElem_of_mem hx
 exact hb j hj
theorem fidx_any {α:Type} (f:α->Bool) (l:List α):(l.any f=true/\0<=fidx f l)\/(l.any f=false/\fidx f l=-1):=by
 unfold fidx
 cases hf:l.findIdx? f with
 | none =>
  rw [List.findIdx?_eq_none_iff] at hf
  exact .inr ⟨by rw [List.any_eq_false];exact fun x hx=>by rw [hf x hx];decide,rfl⟩
 | some k =>
  rw [List.findIdx?_eq_some_iff_getElem] at hf
  obtain ⟨hk,h1,_⟩:=hf
  exact .inl ⟨List.any_eq_true.2 ⟨_,List.getElem_mem hk,h1⟩,Int.natCast_nonneg k⟩
theorem idxfVar {Q:BP} (a:Option Addr) (c:Nat) (l:List VarD) (xn:ByteArray) (X:Nat) (w:World) (h:Sl Q 2 VarE w (.slice a l.length c) l) (hl:l.length<=140737488355328) (hx:w.cell? ⟨X,0,none⟩=some (.string xn)) (hX:X<w.heap.size) :
   Calls Tryz.prog 94 #[.slice a l.length c,.func (.func 99) #[] #[.pointer (some ⟨X,0,none⟩)]] w fun e w'=>e=.returned (.int .i64 (fidx (fun y=>eqS y.nm xn) l))/\Bl w w':=by
 have H1:=hid h
 clear h
 go_enter Tryz.func94,Tryz.ntmps94
 go_wp2_with fail
 go_loopw [8] (fun i wr=>∃ k:Nat,k<=l.length/\i=.int .i64 k/\Bl w wr/\Hid (∀ j (hj:j<k) (hl:j<l.length),eqS l[j].nm xn=false)) (fun i _=>l.length - (intOf i).toNat)
 case atStart=>exact ⟨0,by omega,rfl,Below.refl _ _,fun j hj=>by omega⟩
 case round =>
  obtain ⟨wo,rfl⟩:=ex1 wr
  obtain ⟨k,hk,rfl,hg,HE⟩:=hrel
  by_cases hlt:k<l.length
  . have hltI:(k:Int)<(l.length:Int):=by omega
    have hi0:(0:Int)<=(k:Int):=by omega
    obtain ⟨b1,o1,ha1,hb1,r0,r1⟩:=H1.o.get hlt
    obtain ⟨y,hy⟩:∃ y,y=l[k]:=⟨_,rfl⟩
    rw [<- hy] at r0 r1
    have HX:=hid hy
    subst ha1
    clear hy
    replace r0:=(hg.cell (p:=⟨b1,o1+k * 2,none⟩) hb1).trans r0
    replace r1:=(hg.cell (p:=⟨b1,o1+k * 2+1,none⟩) hb1).trans r1
    have hxo:=(hg.cell (p:=⟨X,0,none⟩) hX).trans hx
    have HC:=hid (vars11_any y xn X wo hxo (Nat.lt_of_lt_of_le hX hg.size))
    unfold varA at HC
    cases hxy:eqS y.nm xn with
    | true =>
     rw [hxy] at HC
     have HF:Hid (fidx (fun y=>eqS y.nm xn) l=k):=fidx_some hlt (by rw [<- HX.o];exact hxy) fun j hj=>HE.o j hj (by omega)
     clear hxy
     go_wp2_with fail
     refine HC.o.mono ?_
     rintro e w' ⟨rfl,g1⟩
     go_wp2_with fail
     go_ret
     exact ⟨ret_int (by rw [HF.o]),hg.trans (g1.mono hg.size)⟩
    | false =>
     rw [hxy] at HC
     have HF:Hid (∀ j (hj:j<k+1) (hl:j<l.length),eqS l[j].nm xn=false):=fun j hj hl=>by
       by_cases e:j=k
       . subst e;rw [<- HX.o];exact hxy
       . exact HE.o j (by omega) hl
     clear hxy
     go_wp2_with fail
     refine HC.o.mono ?_
     rintro e w' ⟨rfl,g1⟩
     go_wp2_with fail
     go_roundw
     case rel=>exact ⟨k+1,by omega,by go_num,hg.trans (g1.mono hg.size),HF⟩
     case measure=>simp [intOf] <;> omega
  . have HF:Hid (fidx (fun y=>eqS y.nm xn) l=-1):=fidx_none fun j hj=>HE.o j (by omega) hj
    go_wp2_with fail
    go_ret
    exact ⟨ret_int (by rw [HF.o]),hg⟩
theorem contfVar {Q:BP} (a:Option Addr) (c:Nat) (l:List VarD) (xn:ByteArray) (X:Nat) (w:World) (h:Sl Q 2 VarE w (.slice a l.length c) l) (hl:l.length<=140737488355328) (hx:w.cell? ⟨X,0,none⟩=some (.string xn)) (hX:X<w.heap.size) :
   Calls Tryz.prog 56 #[.slice a l.length c,.func (.func 99) #[] #[.pointer (some ⟨X,0,none⟩)]] w fun e w'=>e=.returned (.bool (l.any fun y=>eqS y.nm xn))/\Bl w w':=by
 have HI:=hid (idxfVar a c l xn X w h hl hx hX)
 have HA:=hid (fidx_any (fun y:VarD=>eqS y.nm xn) l)
 clear h hx
 generalize fidx (fun y:VarD=>eqS y.nm xn) l=r at HI HA
 generalize l.any (fun y:VarD=>eqS y.nm xn)=R at HA |-
 rcases HA.o with ⟨rfl,h0⟩ | ⟨rfl,rfl⟩
 . go_enter Tryz.func56,Tryz.ntmps56
   go_wp2_with (go_at_call 94;refine HI.o.mono ?_;rintro e w' ⟨rfl,g1⟩)
   go_ret
   exact ⟨rfl,g1⟩
 . go_enter Tryz.func56,Tryz.ntmps56
   go_wp2_with (go_at_call 94;refine HI.o.mono ?_;rintro e w' ⟨rfl,g1⟩)
   go_ret
   exact ⟨rfl,g1⟩
theorem int_ne_lit {n m:Nat} (h:n≠m):((n:Int) == (m:Int))=false:=by rw [nat_is];simp [h]
theorem int_ne2 {n:Nat} (h:n≠2):((n:Int) == 2)=false:=int_ne_lit h
theorem eqS_arg (x:ByteArray):eqS x argS=(x.toList == [97,114,103]):=by
 unfold eqS
 rw [show argS.toList=[97,114,103] by rw [toList_eq'];rfl]
theorem vars1_any {Q:Nat->BP} (m:MdlD) (p:Ph) (H i:Nat) (x:VarD) (w:World) (h:MBox Q w m p H) (hT:Tab w) (hm:MdlOk m) (hi:i<m.vars.length) (hx:x.nm.size<=140737488355328) :
   Calls Tryz.prog 98 #[.int .i64 i,varA x,.pointer (some ⟨H,0,none⟩)] w fun e w'=>e=.returned (.bool (rVar m i x))/\Bl w w':=by
 have l1:=hm.vars
 have HE:Hid (rVar m i x=(isNm x.nm && !eqS x.nm argS && !((m.vars.take i).any fun y=>eqS y.nm x.nm))):=by unfold Hid;rfl
 have HT:=hid hT
 have HB:=hid h
 have hcap:=h.mod.vars.cap (by omega)
 have hHs:=h.box.sl
 have HN:Hid (isNm x.nm=(isT x.nm.data.toList == 2)):=by unfold Hid;rfl
 have HL:=hid (fun wx (hb:Bl w wx)=>lis_any x.nm wx (HT.o.next hb) hx)
 have HV:=hid (fun wx (hb:Bl w wx) (X:Nat) (hc:wx.cell? ⟨X,0,none⟩=some (.string x.nm)) (hX:X<wx.heap.size)=>contfVar p.a1 p.c1 (m.vars.take i) x.nm X wx ((h.below hb).mod.vars.take (by omega)) (by rw [List.length_take_of_le (by omega)];omega) hc hX)
 rw [List.length_take_of_le (by omega)] at HV
 generalize (m.vars.take i).any (fun y=>eqS y.nm x.nm)=bV at HE HV
 generalize rVar m i x=R at HE |-
 generalize isNm x.nm=bN at HE HN
 generalize isT x.nm.data.toList=kk at HN HL
 have hiI:(i:Int)<=(p.c1:Int):=by omega
 have hi0:(0:Int)<=(i:Int):=by omega
 obtain ⟨xn,xi⟩:=x
 unfold varA
 simp only at HE HL HV
 by_cases hk:kk=2
 . subst hk
   obtain ⟨b0,b1,b2,b3,b4,b5,f0,f1,f2,f3,f4,f5⟩:=h.box
   clear h hT hm
   go_enter Tryz.func98,Tryz.ntmps98
   go_wp2_with fail
   refine (HL.o _ (below_al1 w _)).mono ?_
   rintro e w1 ⟨rfl,g1⟩
   have hc1:w1.cell? ⟨w.heap.size,0,none⟩=some (.string xn):=(g1.cell (p:=⟨w.heap.size,0,none⟩) (by simp)).trans (by simp)
   have hz1:w.heap.size<w1.heap.size:=World.block_lt_of_cell? w1 _ hc1
   have G1:=below_bx1 g1
   have b1':=(G1.cell (p:=⟨H,1,none⟩) hHs).trans b1
   clear b0 b1 b2 b3 b4 b5 f0 f1 f2 f3 f4 f5
   go_wp2_with (go_at_call 56;refine (HV.o _ G1 _ hc1 hz1).mono ?_;rintro e w2 ⟨rfl,g2⟩)
   all_goals
     go_ret
     refine ⟨ret_bool ?_,?_⟩
     . rw [HE.o,HN.o,eqS_arg];simp_all
     . first | exact G1.trans (g2.mono G1.size) | exact G1
 . have hk2:=int_ne2 hk
   have HN2:Hid (bN=false):=by unfold Hid;rw [HN.o];simp [hk]
   clear h hT hm hk
   go_enter Tryz.func98,Tryz.ntmps98
   go_wp2_with (go_at_call 96;refine (HL.o _ (below_al1 w _)).mono ?_;rintro e w1 ⟨rfl,g1⟩)
   go_ret
   exact ⟨ret_bool (by rw [HE.o,HN2.o];rfl),below_bx1 g1⟩
theorem signals1_any {Q:Nat->BP} (m:MdlD) (p:Ph) (H i:Nat) (s:ByteArray) (w:World) (h:MBox Q w m p H) (hT:Tab w) (hm:MdlOk m) (hi:i<m.evs.length) (hx:s.size<=140737488355328) :
   Calls Tryz.prog 101 #[.int .i64 i,.string s,.pointer (some ⟨H,0,none⟩)] w fun e w'=>e=.returned (.bool (rEv m i s))/\Bl w w':=by
 have l1:=hm.evs
 have HE:Hid (rEv m i s=(isNm s && !inL (m.evs.take i) s)):=by unfold Hid;rfl
 have HT:=hid hT
 have hcap:=h.mod.evs.cap (by omega)
 have hHs:=h.box.sl
 have HN:Hid (isNm s=(isT s.data.toList == 2)):=by unfold Hid;rfl
 have HL:=hid (lis_any s w hT hx)
 have HV:=hid (fun wx (hb:Bl w wx)=>slCont_any p.a2 p.c2 (m.evs.take i) s wx ((h.below hb).mod.evs.take (by omega)) (by rw [List.length_take_of_le (by omega)];omega))
 rw [List.length_take_of_le (by omega)] at HV
 generalize inL (m.evs.take i) s=bV at HE HV
 generalize rEv m i s=R at HE |-
 generalize isNm s=bN at HE HN
 generalize isT s.data.toList=kk at HN HL
 have hiI:(i:Int)<=(p.c2:Int):=by omega
 have hi0:(0:Int)<=(i:Int):=by omega
 by_cases hk:kk=2
 . subst hk
   obtain ⟨b0,b1,b2,b3,b4,b5,f0,f1,f2,f3,f4,f5⟩:=h.box
   clear h hT hm
   go_enter Tryz.func101,Tryz.ntmps101
   go_wp2_with fail
   refine HL.o.mono ?_
   rintro e w1 ⟨rfl,g1⟩
   have b2':=(g1.cell (p:=⟨H,2,none⟩) hHs).trans b2
   clear b0 b1 b2 b3 b4 b5 f0 f1 f2 f3 f4 f5
   go_wp2_with (go_at_call 58;refine (HV.o _ g1).mono ?_;rintro e w2 ⟨rfl,rfl⟩)
   all_goals
     go_ret
     refine ⟨ret_bool ?_,g1⟩
     rw [HE.o,HN.o];simp_all
 . have hk2:=int_ne2 hk
   have HN2:Hid (bN=false):=by unfold Hid;rw [HN.o];simp [hk]
   clear h hT hm hk
   go_enter Tryz.func101,Tryz.ntmps101
   go_wp2_with (go_at_call 96;refine HL.o.mono ?_;rintro e w1 ⟨rfl,g1⟩)
   go_ret
   exact ⟨ret_bool (by rw [HE.o,HN2.o];rfl),g1⟩
theorem noSub_at {m:MdlD} {k:Nat} (h:k<m.vers.length):noSub m k=m.vers[k].sb.toList.isEmpty:=by
 unfold noSub
 rw [show m.vers[(k:Int).toNat]? = some m.vers[k] by simp [h]]
 show (m.vers[k].sb.size == 0)=_
 rw [toList_eq',Bool.eq_iff_iff,beq_iff_eq,List.isEmpty_iff,<- List.length_eq_zero_iff]
 simp
theorem regions1_any {Q:Nat->BP} (m:MdlD) (p:Ph) (H i:Nat) (x:RegD) (w:World) (h:MBox Q w m p H) (hT:Tab w) (hm:MdlOk m) (hi:i<m.regs.length) (hx:x.nm.size<=140737488355328) :
   Calls Tryz.prog 103 #[.int .i64 i,regA x,.pointer (some ⟨H,0,none⟩)] w fun e w'=>e=.returned (.bool (rReg m i x))/\Bl w w':=by
 have HE:Hid (rReg m i x=if i=0 then nmd x.nm && x.own == -1 else nmd x.nm && Md.stM m x.own && noSub m x.own):=by unfold Hid;rfl
 have HT:=hid hT
 have HB:=hid h
 have hHs:=h.box.sl
 have HL:=hid (fun wx (hb:Bl w wx)=>named_any x.nm wx (HT.o.next hb) hx)
 have HS:=hid (fun wx (hb:Bl w wx)=>state_any m p x.own wx (h.below hb).mod hm.vers)
 have l4:=hm.vers
 have HM:=hid hm
 generalize rReg m i x=R at HE |-
 obtain ⟨xn,xo⟩:=x
 unfold regA
 unfold mdV at HS
 simp only at HE HL HS
 generalize nmd xn=bN at HE HL
 clear hT hm hx
 by_cases h0:i=0
 . have HE2:Hid (R=(bN && xo == -1)):=by unfold Hid;rw [HE.o,if_pos h0]
   subst h0
   clear HE h
   go_enter Tryz.func103,Tryz.ntmps103
   go_wp2_with fail
   refine (HL.o _ (below_al1 w _)).mono ?_
   rintro e w1 ⟨rfl,g1⟩
   have hc1:w1.cell? ⟨w.heap.size,1,none⟩=some (.int .i64 xo):=(g1.cell (p:=⟨w.heap.size,1,none⟩) (by simp)).trans (by simp)
   go_wp2_with fail
   all_goals
     go_ret
     refine ⟨ret_bool ?_,below_bx1 g1⟩
     rw [HE2.o];simp_all
 . have HE2:Hid (R=(bN && Md.stM m xo && noSub m xo)):=by unfold Hid;rw [HE.o,if_neg h0]
   have hi0:((i:Int) == 0)=false:=int_ne_lit (m:=0) h0
   clear HE h0
   cases hs:Md.stM m xo with
   | false =>
    rw [hs] at HE2 HS
    obtain ⟨b0,b1,b2,b3,b4,b5,f0,f1,f2,f3,f4,f5⟩:=h.box
    clear h hs
    go_enter Tryz.func103,Tryz.ntmps103
    go_wp2_with fail
    refine (HL.o _ (below_al1 w _)).mono ?_
    rintro e w1 ⟨rfl,g1⟩
    have hc1:w1.cell? ⟨w.heap.size,1,none⟩=some (.int .i64 xo):=(g1.cell (p:=⟨w.heap.size,1,none⟩) (by simp)).trans (by simp)
    have G1:=below_bx1 g1
    clear b0 b1 b2 b3 b4 b5 f0 f1 f2 f3 f4 f5
    obtain ⟨b0,b1,b2,b3,b4,b5,f0,f1,f2,f3,f4,f5⟩:=(HB.o.below G1).box
    go_wp2_with (go_at_call 105;refine (HS.o _ G1).mono ?_;rintro e w2 ⟨rfl,g2⟩)
    all_goals
      go_ret
      refine ⟨ret_bool ?_,?_⟩
      . rw [HE2.o];simp_all
      . first | exact G1.trans (g2.mono G1.size) | exact G1
   | true =>
    obtain ⟨z0,z1⟩:=Md.stM_lt hs
    rw [hs] at HE2 HS
    obtain ⟨k,rfl⟩:∃ k:Nat,xo=k:=⟨xo.toNat,by omega⟩
    have hlt:k<m.vers.length:=by omega
    obtain ⟨b,o,ha,hb,dv,_,_,_,_,_,_,_,_,r7⟩:=h.mod.vers.get hlt
    have HA:=hid ha
    rw [noSub_at hlt] at HE2
    generalize m.vers[k].sb=sb at HE2 r7
    clear ha
    clear h hs
    go_enter Tryz.func103,Tryz.ntmps103
    go_wp2_with fail
    refine (HL.o _ (below_al1 w _)).mono ?_
    rintro e w1 ⟨rfl,g1⟩
    have hc1:w1.cell? ⟨w.heap.size,1,none⟩=some (.int .i64 k):=(g1.cell (p:=⟨w.heap.size,1,none⟩) (by simp)).trans (by simp)
    have hz1:w.heap.size<w1.heap.size:=World.block_lt_of_cell? w1 _ hc1
    have G1:=below_bx1 g1
    obtain ⟨b0,b1,b2,b3,b4,b5,f0,f1,f2,f3,f4,f5⟩:=(HB.o.below G1).box
    go_wp2_with (go_at_call 105;refine (HS.o _ G1).mono ?_;rintro e w2 ⟨rfl,g2⟩;clear b0 b1 b2 b3 b4 b5 f0 f1 f2 f3 f4 f5;have G2:=G1.trans (g2.mono G1.size);have hc2:=(g2.cell (p:=⟨w.heap.size,1,none⟩) hz1).trans hc1;obtain ⟨b0,b1,b2,b3,b4,b5,f0,f1,f2,f3,f4,f5⟩:=(HB.o.below G2).box;rw [HA.o] at b4;have r7':=(G2.cell (p:=⟨b,o+k * 8+7,none⟩) hb).trans r7)
    all_goals
      go_ret
      refine ⟨ret_bool ?_,?_⟩
      . rw [HE2.o];simp_all
      . first | exact G2 | exact G1
theorem deep1_any {Q:Nat->BP} (m:MdlD) (p:Ph) (H i:Nat) (x:VerD) (a:Option Addr) (c:Nat) (w:World) (h:MBox Q w m p H) (hU:UpOk m) (hm:MdlOk m) (hi:i<m.vers.length) :
   Calls Tryz.prog 110 #[.int .i64 i,verA x a c,.pointer (some ⟨H,0,none⟩)] w fun e w'=>e=.returned (.bool (rDeep m i))/\Bl w w':=by
 have HD:=hid (fun wx (hb:Bl w wx)=>depth_any m p i wx (h.below hb).mod hU hi hm.vers hm.regs)
 have HE:Hid (rDeep m i=decide (deM m i<=64)):=by unfold Hid;rfl
 generalize deM m i=d at HE HD
 generalize rDeep m i=R at HE |-
 unfold mdV at HD
 have hHs:=h.box.sl
 obtain ⟨b0,b1,b2,b3,b4,b5,f0,f1,f2,f3,f4,f5⟩:=h.box
 unfold verA
 clear h hU hm
 go_enter Tryz.func110,Tryz.ntmps110
 go_wp2_with (go_at_call 111;refine (HD.o _ (below_al1 w _)).mono ?_;rintro e w1 ⟨rfl,g1⟩)
 go_ret
 refine ⟨ret_bool ?_,below_bx1 g1⟩
 rw [HE.o,Bool.eq_iff_iff]
 simp
 omega
end Go.Proofs
