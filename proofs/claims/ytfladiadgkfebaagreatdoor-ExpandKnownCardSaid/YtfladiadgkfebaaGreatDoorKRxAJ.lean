/- Walks: which text is a name, the document's answer (from LexD, LexE). -/
import Derived.Test.YtfladiadgkfebaaGreatDoorKRwM
namespace Go.Proofs
open Go.RowKit Go.Lx
open Lib(hid)
set_option maxRecDepth 100000
set_option maxHeartbeats 0
def signV:Array Value:=#[.string ⟨#[58,61]⟩,.string ⟨#[60,62]⟩,.string ⟨#[60,61]⟩,.string ⟨#[62,61]⟩,.string ⟨#[60]⟩,.string ⟨#[62]⟩,.string ⟨#[61]⟩,.string ⟨#[43]⟩,.string ⟨#[45]⟩,.string ⟨#[42]⟩,.string ⟨#[40]⟩,.string ⟨#[41]⟩,.string ⟨#[44]⟩,.string ⟨#[59]⟩]
def wordV:Array Value:=#[.string ⟨#[97,110,100]⟩,.string ⟨#[100,105,118]⟩,.string ⟨#[101,108,115,101]⟩,.string ⟨#[101,109,105,116]⟩,.string ⟨#[101,110,100,105,102]⟩,.string ⟨#[102,97,108,115,101]⟩,.string ⟨#[105,102]⟩,.string ⟨#[105,109,112,108,105,101,115]⟩,.string ⟨#[109,111,100]⟩,.string ⟨#[110,111,116]⟩,.string ⟨#[111,114]⟩,.string ⟨#[116,104,101,110]⟩,.string ⟨#[116,114,117,101]⟩,.string ⟨#[120,111,114]⟩]
theorem signV_eq:signV=(signL.map fun l=>Value.string ⟨l.toArray⟩).toArray:=rfl
theorem wordV_eq:wordV=(wordL.map fun l=>Value.string ⟨l.toArray⟩).toArray:=rfl
theorem beq_comm' (a b:List UInt8):(a == b)=(b == a):=by
 rw [Bool.eq_iff_iff,beq_iff_eq,beq_iff_eq];exact ⟨Eq.symm,Eq.symm⟩
def amg (L:List (List UInt8)) (l:List UInt8):Bool:=L.contains l
theorem whole_eq (l:List UInt8):whole l=if amg signL l then 4 else if amg wordL l then 3 else if l=[] then 0 else if l.all isDig then 1
   else if (match l with | []=>false | c :: _=>isLet c) && l.all isLD then 2 else 0:=rfl
theorem among_any (s:ByteArray) (L:List (List UInt8)) (b n:Nat) (w:World) (hn:L.length=n) (hlen:n<=100) (hc:∀ j (h:j<L.length),w.cell? ⟨b,j,none⟩=some (.string ⟨L[j].toArray⟩)) :
   Calls Tryz.prog 124 #[.string s,.slice (some ⟨b,0,none⟩) n n] w fun e w'=>e=.returned (.bool (amg L s.data.toList))/\w=w':=by
 subst hn
 have HC:=hid hc
 clear hc
 go_enter Tryz.func124,Tryz.ntmps124
 go_wp2_with fail
 go_loop [5] (fun i=>∃ k:Nat,k<=L.length/\i=.int .i64 k/\amg L s.data.toList=amg (L.drop k) s.data.toList) (fun i=>L.length - (intOf i).toNat)
 case atStart=>exact ⟨0,by omega,rfl,rfl⟩
 case round =>
  obtain ⟨k,hk,rfl,hr0⟩:=hrel
  have hr:=hid hr0
  clear hr0
  by_cases hlt:k<L.length
  . have hcell:=HC.o k hlt
    have hd:=hid (List.drop_eq_getElem_cons hlt)
    have hcc:=hid (show amg (L[k] :: L.drop (k+1)) s.data.toList=(s.data.toList == L[k] || amg (L.drop (k+1)) s.data.toList) from List.contains_cons)
    have hq:Hid (((ByteArray.mk L[k].toArray).toList == s.toList)=(s.data.toList == L[k])):=by
      unfold Hid;rw [toList_eq',toList_eq',beq_comm']
    generalize hg:ByteArray.mk L[k].toArray=t at *
    clear hg
    go_wp2_with fail
    . have h:(t.toList == s.toList)=true:=by assumption
      rw [hq.o] at h
      go_ret
      exact ⟨ret_bool (by rw [hr.o,hd.o,hcc.o,h];rfl),rfl⟩
    . have h:(t.toList == s.toList)=false:=by assumption
      rw [hq.o] at h
      go_round
      case rel=>exact ⟨k+1,by omega,by go_num,by rw [hr.o,hd.o,hcc.o,h];rfl⟩
      case measure=>simp [intOf] <;> omega
  . have hx:Hid (amg (L.drop k) s.data.toList=false):=by unfold Hid;rw [List.drop_eq_nil_of_le (by omega)];rfl
    go_wp2_with fail
    go_ret
    exact ⟨ret_bool (by rw [hr.o,hx.o]),rfl⟩
theorem getE {L:List (List UInt8)} {V:Array Value} (h:V=(L.map fun l=>Value.string ⟨l.toArray⟩).toArray) (j:Nat) (hj:j<L.length):V[j]? = some (.string ⟨L[j].toArray⟩):=by
 rw [h,List.getElem?_toArray,List.getElem?_map,List.getElem?_eq_getElem hj];rfl
theorem among_sign (s:ByteArray) (w:World) :
   Calls Tryz.prog 124 #[.string s,.slice (some ⟨w.heap.size,0,none⟩) 14 14] (w.alloc (.cells signV 9)) fun e w'=>e=.returned (.bool (amg signL s.data.toList))/\w.alloc (.cells signV 9)=w' :=
 among_any s signL _ 14 _ rfl (by omega) fun j hj=>by rw [World.cell?_alloc_new];exact getE signV_eq j hj
theorem among_word (s:ByteArray) (b:Nat) (w:World) (hb:w.heap.size=b) :
   Calls Tryz.prog 124 #[.string s,.slice (some ⟨b,0,none⟩) 14 14] (w.alloc (.cells wordV 9)) fun e w'=>e=.returned (.bool (amg wordL s.data.toList))/\w.alloc (.cells wordV 9)=w' :=
 among_any s wordL _ 14 _ rfl (by omega) fun j hj=>by subst hb;rw [World.cell?_alloc_new];exact getE wordV_eq j hj
theorem whole_sign (s:ByteArray) (w:World) (h4:amg signL s.data.toList=true) :
   Calls Tryz.prog 115 #[.string s] w fun e w'=>e=.returned (.int .u8 (whole s.data.toList:Nat))/\Bl w w':=by
 have hw:Hid (whole s.data.toList=4):=by unfold Hid;rw [whole_eq,h4];rfl
 have h4:=hid h4
 go_enter Tryz.func115,Tryz.ntmps115
 go_wp2_with fail
 refine (among_sign _ _).mono ?_
 rintro e w' ⟨rfl,rfl⟩
 rw [h4.o]
 go_wp2_with fail
 go_ret
 exact ⟨ret_int (by rw [hw.o];rfl),(Below.refl _ _).alloc (Nat.le_refl _) _⟩
theorem whole_word (s:ByteArray) (w:World) (h4:amg signL s.data.toList=false) (h3:amg wordL s.data.toList=true) :
   Calls Tryz.prog 115 #[.string s] w fun e w'=>e=.returned (.int .u8 (whole s.data.toList:Nat))/\Bl w w':=by
 have h4:=hid h4
 have hw:Hid (whole s.data.toList=3):=by unfold Hid;rw [whole_eq,h4.o,h3];rfl
 have h3:=hid h3
 go_enter Tryz.func115,Tryz.ntmps115
 go_wp2_with fail
 refine (among_sign _ _).mono ?_
 rintro e w' ⟨rfl,rfl⟩
 rw [h4.o]
 go_wp2_with fail
 refine (among_word _ _ _ (World.size_alloc _ _)).mono ?_
 rintro e w' ⟨rfl,rfl⟩
 rw [h3.o]
 go_wp2_with fail
 go_ret
 exact ⟨ret_int (by rw [hw.o];rfl),((Below.refl _ _).alloc (Nat.le_refl _) _).alloc (by simp) _⟩
theorem whole_nil (s:ByteArray) (w:World) (h4:amg signL s.data.toList=false) (h3:amg wordL s.data.toList=false) (h0:s.size=0) :
   Calls Tryz.prog 115 #[.string s] w fun e w'=>e=.returned (.int .u8 (whole s.data.toList:Nat))/\Bl w w':=by
 have h4:=hid h4
 have h3:=hid h3
 have hl:s.data.toList=[]:=List.length_eq_zero_iff.1 (by rw [size_eq];exact h0)
 have hw:Hid (whole s.data.toList=0):=by unfold Hid;rw [hl];decide
 have hb0:s.toList=[]:=by rw [toList_eq',hl]
 clear hl h0
 go_enter Tryz.func115,Tryz.ntmps115
 go_wp2_with fail
 refine (among_sign _ _).mono ?_
 rintro e w' ⟨rfl,rfl⟩
 rw [h4.o]
 go_wp2_with fail
 refine (among_word _ _ _ (World.size_alloc _ _)).mono ?_
 rintro e w' ⟨rfl,rfl⟩
 rw [h3.o]
 go_wp2_with fail
 go_ret
 exact ⟨ret_int (by rw [hw.o];rfl),((Below.refl _ _).alloc (Nat.le_refl _) _).alloc (by simp) _⟩
theorem whole_rest (s:ByteArray) (w:World) (hs:s.size<=maxLen) (h4:amg signL s.data.toList=false) (h3:amg wordL s.data.toList=false) (h0:¬ s.size=0) :
   Calls Tryz.prog 115 #[.string s] w fun e w'=>e=.returned (.int .u8 (whole s.data.toList:Nat))/\Bl w w':=by
 unfold maxLen at hs
 have h4:=hid h4
 have h3:=hid h3
 have h1:0<s.size:=by omega
 have hb0:=isEmpty_of h1
 have hd:=get_drop h1
 rw [List.drop_zero] at hd
 have hw:Hid (whole s.data.toList=if s.data.toList.all isDig then 1 else if isLet s[0] && s.data.toList.all isLD then 2 else 0):=by
   unfold Hid;rw [whole_eq,h4.o,h3.o,if_neg (ne_of_size h1)]
   rw [hd];rfl
 have hD:=hid hd
 clear hd h0
 go_enter Tryz.func115,Tryz.ntmps115
 go_wp2_with fail
 refine (among_sign _ _).mono ?_
 rintro e w' ⟨rfl,rfl⟩
 rw [h4.o]
 go_wp2_with fail
 refine (among_word _ _ _ (World.size_alloc _ _)).mono ?_
 rintro e w' ⟨rfl,rfl⟩
 rw [h3.o]
 go_wp2_with fail
 refine (rletter_any _ _).mono ?_
 rintro e w' ⟨rfl,rfl⟩
 go_wp2_with fail
 go_loop [3,4,5] (fun a c i=>∃ (k:Nat) (x y:Bool),k<=s.size/\a=.bool x/\c=.bool y/\i=.int .i64 k/\Hid ((s.data.toList.all isDig=(x && (s.data.toList.drop k).all isDig))/\((isLet s[0] && s.data.toList.all isLD)=(y && (s.data.toList.drop k).all isLD)))) (fun _ _ i=>s.size - (intOf i).toNat)
 case atStart=>exact ⟨0,true,_,by omega,rfl,rfl,rfl,by unfold Hid;rw [List.drop_zero];exact ⟨rfl,rfl⟩⟩
 case round =>
  obtain ⟨k,x,y,hk,rfl,rfl,rfl,hR⟩:=hrel
  by_cases hlt:k<s.size
  . have hdk:=hid (get_drop hlt)
    have hR2:∀ p q r:Bool,p=isDig s[k]->q=isLet s[k]->Hid ((s.data.toList.all isDig=((x && p) && (s.data.toList.drop (k+1)).all isDig))/\((isLet s[0] && s.data.toList.all isLD)=((y && (q || p)) && (s.data.toList.drop (k+1)).all isLD))):=by
      rintro p q r rfl rfl
      obtain ⟨a1,a2⟩:=hR.o
      unfold Hid
      rw [a1,a2,hdk.o,List.all_cons,List.all_cons]
      refine ⟨by rw [Bool.and_assoc],?_⟩
      unfold isLD;rw [Bool.and_assoc]
    have HR2:=hid hR2
    clear hR2 hR
    generalize hp:isDig s[k]=p
    generalize hq:isLet s[k]=q
    have HP:=hid hp
    have HQ:=hid hq
    clear hp hq
    have hfin:=HR2.o p q true HP.o.symm HQ.o.symm
    clear HR2
    have hcd:∀ wx:World,Calls Tryz.prog 126 #[.int .u8 (s[k].toNat:Int)] wx fun e w'=>e=.returned (.bool p)/\wx=w':=fun wx=>by rw [<- HP.o];exact rdigit_any _ _
    have hcl:∀ wx:World,Calls Tryz.prog 125 #[.int .u8 (s[k].toNat:Int)] wx fun e w'=>e=.returned (.bool q)/\wx=w':=fun wx=>by rw [<- HQ.o];exact rletter_any _ _
    have HCD:=hid hcd
    have HCL:=hid hcl
    clear hcd hcl
    cases x <;> cases y <;> cases q
    all_goals
      go_wp2_with (first | (go_at_call 126;refine (HCD.o _).mono ?_;rintro e w' ⟨rfl,rfl⟩) | (go_at_call 125;refine (HCL.o _).mono ?_;rintro e w' ⟨rfl,rfl⟩))
      go_round
      case rel=>exact ⟨k+1,_,_,by omega,rfl,rfl,by go_num,hfin⟩
      case measure=>simp [intOf] <;> omega
  . have hx:Hid (s.data.toList.drop k=[]):=List.drop_eq_nil_of_le (by rw [size_eq];omega)
    obtain ⟨a1,a2⟩:=hR.o
    rw [hx.o,List.all_nil,Bool.and_true] at a1 a2
    rw [a1,a2] at hw
    clear a1 a2 hR
    cases x
    . cases y
      . go_wp2_with fail
        go_ret
        exact ⟨ret_int (by rw [hw.o];rfl),((Below.refl _ _).alloc (Nat.le_refl _) _).alloc (by simp) _⟩
      . go_wp2_with fail
        go_ret
        exact ⟨ret_int (by rw [hw.o];rfl),((Below.refl _ _).alloc (Nat.le_refl _) _).alloc (by simp) _⟩
    . go_wp2_with fail
      go_ret
      exact ⟨ret_int (by rw [hw.o];rfl),((Below.refl _ _).alloc (Nat.le_refl _) _).alloc (by simp) _⟩
theorem whole_any (s:ByteArray) (w:World) (hs:s.size<=maxLen) :
   Calls Tryz.prog 115 #[.string s] w fun e w'=>e=.returned (.int .u8 (whole s.data.toList:Nat))/\Bl w w':=by
 cases h4:amg signL s.data.toList with
 | true=>exact whole_sign s w h4
 | false =>
  cases h3:amg wordL s.data.toList with
  | true=>exact whole_word s w h4 h3
  | false =>
   by_cases h0:s.size=0
   . exact whole_nil s w h4 h3 h0
   . exact whole_rest s w hs h4 h3 h0
theorem ris_any (s:ByteArray) (w:World) (hs:s.size<=140737488355328) :
   Calls Tryz.prog 74 #[.string s] w fun e w'=>e=.returned (.int .u8 (isT s.data.toList:Nat))/\Bl w w':=by
 have hI:=hid (isT_whole s.data.toList)
 rw [size_eq] at hI
 by_cases h:64<s.size
 . have hi:Hid (isT s.data.toList=0):=by unfold Hid;rw [hI.o,if_pos h]
   clear hI
   go_enter Tryz.func74,Tryz.ntmps74
   go_wp2_with fail
   go_ret
   exact ⟨ret_int (by rw [hi.o];rfl),Below.refl _ _⟩
 . have hi:Hid (isT s.data.toList=whole s.data.toList):=by unfold Hid;rw [hI.o,if_neg h]
   clear hI
   go_enter Tryz.func74,Tryz.ntmps74
   go_wp2_with fail
   refine (whole_any _ _ (by unfold maxLen;omega)).mono ?_
   rintro e w1 ⟨rfl,hb⟩
   go_wp2_with fail
   go_ret
   exact ⟨ret_int (by rw [hi.o]),hb⟩
end Go.Proofs

namespace Go.Proofs
open Go.RowKit Go.Lx Go.Md Go.Shelf
open Lib(hid)
set_option maxRecDepth 100000
set_option maxHeartbeats 0
set_option linter.unusedVariables false
theorem isName_any (s:ByteArray) (w:World) (hs:s.size<=140737488355328) :
   Calls Tryz.prog 40 #[.string s] w fun e w'=>e=.returned (.bool (isNm s))/\Bl w w':=by
 have HN:Hid (isNm s=(isT s.data.toList == 2)):=rfl
 go_enter Tryz.func40,Tryz.ntmps40
 go_wp2_with fail
 refine (ris_any s _ hs).mono ?_
 rintro e w' ⟨rfl,hb⟩
 go_wp2_with fail
 go_ret
 exact ⟨ret_bool (by rw [HN.o,nat_is2]),hb⟩
theorem rnamed_any (s:ByteArray) (w:World) (hs:s.size<=140737488355328) :
   Calls Tryz.prog 116 #[.string s] w fun e w'=>e=.returned (.bool (nmd s))/\Bl w w':=by
 have HN:Hid (nmd s=(s.toList.isEmpty || isNm s)):=nmd_is s
 cases he:s.toList.isEmpty with
 | true =>
  go_enter Tryz.func116,Tryz.ntmps116
  go_wp2_with fail
  go_ret
  exact ⟨ret_bool (by rw [HN.o,he];rfl),Below.refl _ _⟩
 | false =>
  go_enter Tryz.func116,Tryz.ntmps116
  go_wp2_with fail
  refine (isName_any s _ hs).mono ?_
  rintro e w' ⟨rfl,hb⟩
  go_wp2_with fail
  go_ret
  exact ⟨ret_bool (by rw [HN.o,he];rfl),hb⟩
theorem place_any (i:Int) (n:Nat) (w:World):Calls Tryz.prog 117 #[.int .i64 i,.int .i64 n] w fun e w'=>e=.returned (.bool (decide (0<=i) && decide (i<n)))/\w=w':=by
 by_cases h:0<=i
 . go_enter Tryz.func117,Tryz.ntmps117
   go_wp2_with fail
   go_ret
   exact ⟨ret_bool (by simp [h]),rfl⟩
 . go_enter Tryz.func117,Tryz.ntmps117
   go_wp2_with fail
   go_ret
   exact ⟨ret_bool (by simp;omega),rfl⟩
theorem inL_cons (l:List ByteArray) {k:Nat} (h:k<l.length) (s:ByteArray):inL (l.drop k) s=(eqS s l[k] || inL (l.drop (k+1)) s):=by
 rw [List.drop_eq_getElem_cons h];rfl
theorem ramong_any {Q:BP} (a:Option Addr) (c:Nat) (l:List ByteArray) (s:ByteArray) (w:World) (h:SlS Q w (.slice a l.length c) l) (hl:l.length<=140737488355328) :
   Calls Tryz.prog 76 #[.string s,.slice a l.length c] w fun e w'=>e=.returned (.bool (inL l s))/\w=w':=by
 have H1:=hid h
 clear h
 go_enter Tryz.func76,Tryz.ntmps76
 go_wp2_with fail
 go_loop [5] (fun i=>∃ k:Nat,k<=l.length/\i=.int .i64 k/\Hid (inL l s=inL (l.drop k) s)) (fun i=>l.length - (intOf i).toNat)
 case atStart=>exact ⟨0,by omega,rfl,(show Hid _ from rfl)⟩
 case round =>
  obtain ⟨k,hk,rfl,HE⟩:=hrel
  by_cases hlt:k<l.length
  . have hltI:(k:Int)<(l.length:Int):=by omega
    have hi0:(0:Int)<=(k:Int):=by omega
    obtain ⟨b1,o1,ha1,hb1,hc1⟩:=H1.o.get hlt
    have HD:=hid (inL_cons l hlt s)
    obtain ⟨x,hx⟩:∃ x,x=l[k]:=⟨_,rfl⟩
    rw [<- hx] at hc1 HD
    subst ha1
    clear hx
    cases hxy:eqS x s with
    | true =>
     have hxy':(x.toList == s.toList)=true:=hxy
     go_wp2_with fail
     go_ret
     exact ⟨ret_bool (by rw [HE.o,HD.o,eqS_comm,hxy];rfl),rfl⟩
    | false =>
     have hxy':(x.toList == s.toList)=false:=hxy
     go_wp2_with fail
     go_round
     case rel=>exact ⟨k+1,by omega,by go_num,(show Hid _ from by unfold Hid;rw [HE.o,HD.o,eqS_comm,hxy];rfl)⟩
     case measure=>simp [intOf] <;> omega
  . go_wp2_with fail
    go_ret
    exact ⟨ret_bool (by rw [HE.o,List.drop_eq_nil_of_le (by omega)];rfl),rfl⟩
theorem revents_any {Q:Nat->BP} {Q':BP} (m:MdlD) (p:Ph) (a:Option Addr) (c:Nat) (l:List ByteArray) (w:World) (h:Mod Q w m p) (hm:m.evs.length<=140737488355328) (h1:SlS Q' w (.slice a l.length c) l) (hl:l.length<=140737488355328) :
   Calls Tryz.prog 118 #[mdV m p,.slice a l.length c] w fun e w'=>e=.returned (.bool (evsG m.evs [] l))/\Bl w w':=by
 unfold mdV
 have HB:Hid (Bl w (w.alloc (.cells #[.string m.nm,.slice p.a1 m.vars.length p.c1,.slice p.a2 m.evs.length p.c2,.slice p.a3 m.regs.length p.c3,.slice p.a4 m.vers.length p.c4,.slice p.a5 m.trns.length p.c5] 33))):=(Below.refl _ w).alloc (Nat.le_refl _) _
 have HE0:=hid h.evs
 have H0:=hid h1
 have HX:=hid (boxT w m p 33)
 have HCap:Hid (∀ {k:Nat},k<l.length->l.length<=c):=fun hk=>h1.cap (by omega)
 clear h h1
 go_enter Tryz.func118,Tryz.ntmps118
 go_upto_region 1 with fail
 generalize w.alloc (.cells #[.string m.nm,.slice p.a1 m.vars.length p.c1,.slice p.a2 m.evs.length p.c2,.slice p.a3 m.regs.length p.c3,.slice p.a4 m.vers.length p.c4,.slice p.a5 m.trns.length p.c5] 33)=W1 at *
 go_wp2_with fail
 go_loopw [5] (fun i wr=>∃ k:Nat,k<=l.length/\i=.int .i64 k/\Bl W1 wr/\Hid (evsG m.evs [] l=evsG m.evs (l.take k) (l.drop k))) (fun i _=>l.length - (intOf i).toNat)
 case atStart=>exact ⟨0,by omega,rfl,Below.refl _ _,(show Hid _ from rfl)⟩
 case round =>
  obtain ⟨wo,rfl⟩:=ex1 wr
  obtain ⟨k,hk,rfl,hg,HE⟩:=hrel
  have HG:=hid hg
  have HBx:=hid (HX.o.below hg HX.o.sl)
  obtain ⟨b0,b1,b2,b3,b4,b5,f0,f1,f2,f3,f4,f5⟩:=HBx.o
  have HKE:=hid ((HE0.o.kept (Kept.of_below HB.o)).kept (Kept.of_below hg))
  have HKL:=hid ((H0.o.kept (Kept.of_below HB.o)).kept (Kept.of_below hg))
  clear hg
  by_cases hlt:k<l.length
  . have hltI:(k:Int)<(l.length:Int):=by omega
    have hi0:(0:Int)<=(k:Int):=by omega
    have hleI:(k:Int)<=(l.length:Int):=by omega
    obtain ⟨b1',o1,ha1,hb1,hc1⟩:=HKL.o.get hlt
    have HD:=hid (evsG_drop (ev:=m.evs) hlt)
    have HC:=hid (fun wx (hx:Bl wo wx) s=>ramong_any p.a2 p.c2 m.evs s wx (HKE.o.kept (Kept.of_below hx)) hm)
    have HC2:=hid (fun wx (hx:Bl wo wx) s=>ramong_any a c (l.take k) s wx ((HKL.o.take hk).kept (Kept.of_below hx)) (by rw [List.length_take_of_le hk];omega))
    have hcapI:(k:Int)<=(c:Int):=by have:=HCap.o hlt;omega
    rw [List.length_take_of_le hk] at HC2
    obtain ⟨x,hx⟩:∃ x,x=l[k]:=⟨_,rfl⟩
    rw [<- hx] at hc1 HD
    subst ha1
    clear hx
    cases hi:inL m.evs x with
    | false =>
     have HI:=hid hi
     clear hi
     go_wp2_with fail
     go_quiet ((go_at_call 76;refine Calls.quiet_of_same (v:=.bool false) ?_;((with_reducible refine (HC.o _ (below_drewN (Below.refl _ _) _) x).mono ?_));rintro e w' ⟨he,hw⟩;exact ⟨by rw [he,HI.o],hw.symm⟩))
     go_wp2_with fail
     go_ret
     exact ⟨ret_bool (by rw [HE.o,HD.o,HI.o];rfl),HB.o.trans ((below_drewN HG.o _).mono HB.o.size)⟩
    | true =>
     have HI:=hid hi
     clear hi
     cases hj:inL (l.take k) x with
     | false =>
      have HJ:=hid hj
      clear hj
      go_wp2_with fail
      go_quiet ((first | (go_at_call 76;refine Calls.quiet_of_same (v:=.bool true) ?_;((with_reducible refine (HC.o _ (below_drewN (Below.refl _ _) _) x).mono ?_));rintro e w' ⟨he,hw⟩;exact ⟨by rw [he,HI.o],hw.symm⟩) | (go_at_call 76;refine Calls.quiet_of_same (v:=.bool false) ?_;((with_reducible refine (HC2.o _ (below_drewN (Below.refl _ _) _) x).mono ?_));rintro e w' ⟨he,hw⟩;exact ⟨by rw [he,HJ.o],hw.symm⟩)))
      go_wp2_with fail
      go_roundw
      case rel=>exact ⟨k+1,by omega,by go_num,below_drewN HG.o _,(show Hid _ from by unfold Hid;rw [HE.o,HD.o,HI.o,HJ.o];rfl)⟩
      case measure=>simp [intOf] <;> omega
     | true =>
      have HJ:=hid hj
      clear hj
      go_wp2_with fail
      go_quiet ((first | (go_at_call 76;refine Calls.quiet_of_same (v:=.bool true) ?_;((with_reducible refine (HC.o _ (below_drewN (Below.refl _ _) _) x).mono ?_));rintro e w' ⟨he,hw⟩;exact ⟨by rw [he,HI.o],hw.symm⟩) | (go_at_call 76;refine Calls.quiet_of_same (v:=.bool true) ?_;((with_reducible refine (HC2.o _ (below_drewN (Below.refl _ _) _) x).mono ?_));rintro e w' ⟨he,hw⟩;exact ⟨by rw [he,HJ.o],hw.symm⟩)))
      go_wp2_with fail
      go_ret
      exact ⟨ret_bool (by rw [HE.o,HD.o,HI.o,HJ.o];rfl),HB.o.trans ((below_drewN HG.o _).mono HB.o.size)⟩
  . go_wp2_with fail
    go_ret
    exact ⟨ret_bool (by rw [HE.o,List.drop_eq_nil_of_le (by omega)];rfl),HB.o.trans (HG.o.mono HB.o.size)⟩
end Go.Proofs

namespace Go.Proofs
open Go.RowKit Go.Lx Go.Md Go.Shelf Go.BigFrame
open Lib(hid)
set_option maxRecDepth 100000
set_option maxHeartbeats 0
set_option linter.unusedVariables false
theorem raround_any {Q:Nat->BP} (m:MdlD) (p:Ph) (k:Nat) (w:World) (h:Mod Q w m p) (hU:UpOk m) (hlt:k<m.vers.length) (hm:m.vers.length<=140737488355328) (hm2:m.regs.length<=140737488355328) :
   Calls Tryz.prog 119 #[mdV m p,.int .i64 k] w fun e w'=>e=.returned (.int .i64 (arM m k))/\Bl w w':=by
 unfold mdV
 have hltI:(k:Int)<(m.vers.length:Int):=by omega
 have hi0:(0:Int)<=(k:Int):=by omega
 obtain ⟨b,o,ha,hb,dv,hs,r0,r1,r2,r3,r4,r5,r6,r7⟩:=h.vers.get hlt
 have hu:=hU.rg m.vers[k] (List.getElem_mem hlt)
 have HA:Hid (arM m k=if 0<=m.vers[k].ofv then m.vers[k].ofv else match m.regs[m.vers[k].rg.toNat]? with | some r=>r.own | none=>-1):=by
   unfold Hid arM
   rw [show m.vers[(k:Int).toNat]? = some m.vers[k] by simp [hlt]]
   rfl
 have HR:=hid (fun (j:Nat) (hj:j<m.regs.length)=>h.regs.get hj)
 generalize m.vers[k]=x at r0 r1 r2 r3 r4 r5 r6 r7 hu HA hs
 clear hs
 by_cases hof:0<=x.ofv
 . have HA2:Hid (arM m k=x.ofv):=HA.o.trans (if_pos hof)
   clear hu HA h
   rw [ha]
   clear ha
   go_enter Tryz.func119,Tryz.ntmps119
   go_wp2_with fail
   go_ret
   exact ⟨ret_int (by rw [HA2.o]),below_al1 w _⟩
 . rcases hu with hu | ⟨_,hr0,hr1⟩
   . omega
   . obtain ⟨j,hj⟩:∃ j:Nat,x.rg=j:=⟨x.rg.toNat,by omega⟩
     have hjl:j<m.regs.length:=by omega
     obtain ⟨b2,o2,ha2,hb2,s0,s1⟩:=HR.o j hjl
     have HA2:Hid (arM m k=m.regs[j].own):=by
       refine HA.o.trans ((if_neg hof).trans ?_)
       rw [hj]
       simp [hjl]
     generalize m.regs[j]=y at s0 s1 HA2
     rw [hj] at r2
     have hj0:(0:Int)<=(j:Int):=by omega
     have hj1:(j:Int)<(m.regs.length:Int):=by omega
     clear hj hr0 hr1 HA h HR
     rw [ha,ha2]
     clear ha ha2
     go_enter Tryz.func119,Tryz.ntmps119
     go_wp2_with fail
     go_quiet (fail)
     go_wp2_with fail
     go_ret
     exact ⟨ret_int (by rw [HA2.o]),below_drewN (below_al1 w _) _⟩
theorem rdeep_any {Q:Nat->BP} (m:MdlD) (p:Ph) (k:Nat) (w:World) (h:Mod Q w m p) (hU:UpOk m) (hlt:k<m.vers.length) (hm:m.vers.length<=140737488355328) (hm2:m.regs.length<=140737488355328) :
   Calls Tryz.prog 79 #[mdV m p,.int .i64 k] w fun e w'=>e=.returned (.int .i64 (deM m k:Nat))/\Bl w w':=by
 have HC:=hid (fun wx (hb:Bl w wx) (j:Nat) (hj:j<m.vers.length)=>raround_any m p j wx (h.below hb) hU hj hm hm2)
 have HL:=hid (Md.arM_lt hU)
 have HD:Hid (deM m k=dpM m 65 (arM m k)):=by unfold Hid;rfl
 have HB0:=hid (boxT w m p 33)
 unfold mdV at HC |-
 clear h hU
 go_enter Tryz.func79,Tryz.ntmps79
 go_upto_region 2 with fail
 go_wp2_with fail
 go_loopw [1,5] (fun v i wr=>∃ (j n:Nat),j<=65/\v=.int .i64 n/\i=.int .i64 j/\n<m.vers.length/\Hid (deM m k=j+dpM m (65 - j) (arM m n))/\Bl w wr/\Box wr w.heap.size (.string m.nm) (.slice p.a1 m.vars.length p.c1) (.slice p.a2 m.evs.length p.c2) (.slice p.a3 m.regs.length p.c3) (.slice p.a4 m.vers.length p.c4) (.slice p.a5 m.trns.length p.c5)) (fun _ i _=>65 - (intOf i).toNat)
 case atStart=>exact ⟨0,k,by omega,rfl,rfl,hlt,(show Hid _ from by unfold Hid;rw [HD.o];simp),below_al1 w _,HB0.o⟩
 case round =>
  obtain ⟨wo,rfl⟩:=ex1 wr
  obtain ⟨j,n,hj,rfl,rfl,hn,HE,hg,hbx⟩:=hrel
  have HX:=hid hbx
  have HG:=hid hg
  obtain ⟨b0,b1,b2,b3,b4,b5,f0,f1,f2,f3,f4,f5⟩:=hbx
  clear hg
  by_cases h1:j<65
  . have h1I:(j:Int)<65:=by omega
    go_wp2_with fail
    refine (HC.o _ HG.o n hn).mono ?_
    rintro e w2 ⟨rfl,g2⟩
    obtain ⟨b0,b1,b2,b3,b4,b5,f0,f1,f2,f3,f4,f5⟩:=HX.o.below g2 HX.o.sl
    have HG2:=hid (HG.o.trans (g2.mono HG.o.size))
    have HX2:=hid (HX.o.below g2 HX.o.sl)
    have HLn:=HL.o (n:Int)
    by_cases h0:0<=arM m n
    . obtain ⟨u,hu⟩:∃ u:Nat,arM m n=u:=⟨(arM m n).toNat,by omega⟩
      have hE2:Hid (deM m k=(j+1:Nat)+dpM m (65 - (j+1)) (arM m u)):=by
        unfold Hid
        rw [HE.o,show 65 - j=(65 - (j+1))+1 by omega,dpM_up h0,hu]
        omega
      have hul:u<m.vers.length:=by omega
      have HU2:=hid hu
      clear HE h0 HLn g2
      go_wp2_with fail
      refine (HC.o _ HG2.o n hn).mono ?_
      rintro e w3 ⟨rfl,g3⟩
      go_wp2_with fail
      go_roundw
      case rel=>exact ⟨j+1,u,by omega,rfl,by go_num,hul,hE2,HG2.o.trans (g3.mono HG2.o.size),HX2.o.below g3 HX2.o.sl⟩
      case measure=>simp [intOf] <;> omega
    . have h0':decide (0<=arM m n)=false:=by simpa using h0
      have HEnd:Hid (deM m k=j):=hid (by rw [HE.o,dpM_end (by omega)];omega)
      clear HLn g2 HE
      go_wp2_with fail
      go_ret
      exact ⟨ret_int (by rw [HEnd.o]),HG2.o⟩
  . obtain rfl:j=65:=by omega
    go_wp2_with fail
    go_ret
    exact ⟨ret_int (by rw [HE.o];simp [dpM]),HG.o⟩
theorem any_take {α:Type} (f:α->Bool) {l:List α} {k:Nat} (h:k<l.length):(l.take (k+1)).any f=((l.take k).any f || f l[k]):=by
 rw [List.take_succ_eq_append_getElem h,List.any_append];simp
theorem rvariable_any {Q:Nat->BP} (m:MdlD) (p:Ph) (i:Nat) (w:World) (h:Mod Q w m p) (hm:MdlOk m) (hi:i<m.vars.length) :
   Calls Tryz.prog 75 #[mdV m p,.int .i64 i] w fun e w'=>e=.returned (.bool (rVar m i m.vars[i]))/\Bl w w':=by
 have HE:Hid (rVar m i m.vars[i]=(isNm m.vars[i].nm && !eqS m.vars[i].nm argS && !((m.vars.take i).any fun y=>eqS y.nm m.vars[i].nm))):=by unfold Hid;rfl
 have l1:=hm.vars
 have HM:=hid (fun (wx:World) (hb:Bl w wx)=>h.below hb)
 have HB0:=hid (boxT w m p 33)
 have HN:=hid (isName_any m.vars[i].nm)
 have hn:=hm.varn m.vars[i] (List.getElem_mem hi)
 have hcap:=h.vars.cap (by omega)
 obtain ⟨x,hx⟩:∃ x,x=m.vars[i]:=⟨_,rfl⟩
 rw [<- hx] at HE HN hn |-
 have HXx:=hid hx
 clear hx
 have hiI:(i:Int)<(m.vars.length:Int):=by omega
 have hi0:(0:Int)<=(i:Int):=by omega
 unfold mdV
 clear h hm
 go_enter Tryz.func75,Tryz.ntmps75
 go_upto_region 2 with fail
 generalize hW:w.alloc (.cells #[.string m.nm,.slice p.a1 m.vars.length p.c1,.slice p.a2 m.evs.length p.c2,.slice p.a3 m.regs.length p.c3,.slice p.a4 m.vers.length p.c4,.slice p.a5 m.trns.length p.c5] 33)=W1 at *
 have HB1:Hid (Bl w W1):=by rw [<- hW];exact below_al1 w _
 clear hW
 go_wp2_with fail
 go_loopw [5] (fun c wr=>∃ k:Nat,k<=i/\c=.int .i64 k/\Bl w wr/\Box wr w.heap.size (.string m.nm) (.slice p.a1 m.vars.length p.c1) (.slice p.a2 m.evs.length p.c2) (.slice p.a3 m.regs.length p.c3) (.slice p.a4 m.vers.length p.c4) (.slice p.a5 m.trns.length p.c5)/\((m.vars.take k).any fun y=>eqS y.nm x.nm)=false) (fun c _=>i - (intOf c).toNat)
 case atStart=>exact ⟨0,by omega,rfl,HB1.o,HB0.o,by simp⟩
 case round =>
  obtain ⟨wo,rfl⟩:=ex1 wr
  obtain ⟨k,hk,rfl,hg,hbx,hno⟩:=hrel
  have HG:=hid hg
  have HX:=hid hbx
  have HNo:=hid hno
  obtain ⟨b0,b1,b2,b3,b4,b5,f0,f1,f2,f3,f4,f5⟩:=hbx
  obtain ⟨vb,vo,hva,hvb,vc⟩:=(HM.o wo HG.o).vars.get hi
  rw [hva] at b1
  have vc0:=vc.1
  rw [<- HXx.o] at vc0
  clear hg hno
  by_cases hlt:k<i
  . obtain ⟨vb',vo',hva',hvb',vc'⟩:=(HM.o wo HG.o).vars.get (show k<m.vars.length by omega)
    rw [hva] at hva'
    simp only [Option.some.injEq,Addr.mk.injEq,and_true] at hva'
    obtain ⟨rfl,rfl⟩:=hva'
    have vk0:=vc'.1
    have hkI:(k:Int)<(i:Int):=by omega
    have hkI2:(k:Int)<(m.vars.length:Int):=by omega
    have hk0:(0:Int)<=(k:Int):=by omega
    have HT:=hid (any_take (fun y:VarD=>eqS y.nm x.nm) (show k<m.vars.length by omega))
    have HAll:Hid (eqS m.vars[k].nm x.nm=true->rVar m i x=false):=fun he=>by
      rw [HE.o]
      have:((m.vars.take i).any fun y=>eqS y.nm x.nm)=true:=by
        rw [List.any_eq_true]
        exact ⟨m.vars[k],List.mem_take_iff_getElem.2 ⟨k,by omega,rfl⟩,he⟩
      rw [this];simp
    generalize m.vars[k]=y at vk0 HT HAll
    clear vc vc'
    cases hxy:eqS y.nm x.nm with
    | true =>
     have hxy':(y.nm.toList == x.nm.toList)=true:=hxy
     have hF:=hid (HAll.o hxy)
     clear hxy HAll HT HE HN
     go_wp2_with fail
     go_quiet (fail)
     go_wp2_with fail
     go_ret
     exact ⟨ret_bool (by rw [hF.o]),below_drewN HG.o _⟩
    | false =>
     have hxy':(y.nm.toList == x.nm.toList)=false:=hxy
     have hT:Hid (((m.vars.take (k+1)).any fun y=>eqS y.nm x.nm)=false):=hid (by rw [HT.o,HNo.o,hxy];rfl)
     clear hxy HAll HT HE HN
     go_wp2_with fail
     go_quiet (fail)
     go_wp2_with fail
     go_roundw
     case rel=>exact ⟨k+1,by omega,by go_num,below_drewN HG.o _,HX.o.below (below_drewN (Below.refl _ _) _) HX.o.sl,hT.o⟩
     case measure=>simp [intOf] <;> omega
  . obtain rfl:k=i:=by omega
    rw [HNo.o] at HE
    clear vc HNo
    cases hb:isNm x.nm with
    | false =>
     have HI:=hid hb
     have hE:Hid (rVar m k x=false):=hid (by rw [HE.o,hb];rfl)
     clear hb HE
     go_wp2_with ((with_reducible refine (HN.o _ hn).mono ?_);rintro e w3 ⟨rfl,g3⟩;rw [HI.o])
     go_ret
     exact ⟨ret_bool (by rw [hE.o]),HG.o.trans (g3.mono HG.o.size)⟩
    | true =>
     have HI:=hid hb
     have hE:Hid (rVar m k x=!(x.nm.toList == [97,114,103])):=hid (by rw [HE.o,hb,eqS_arg];simp)
     have vc9:=fun (w3:World) (g3:Bl wo w3)=>(g3.cell (p:=⟨vb,vo+k * 2,none⟩) hvb).trans vc0
     have HV9:=hid vc9
     have b19:=hid (fun (w3:World) (g3:Bl wo w3)=>(g3.cell (p:=⟨w.heap.size,1,none⟩) HX.o.sl).trans b1)
     clear hb HE vc9
     go_wp2_with ((with_reducible refine (HN.o _ hn).mono ?_);rintro e w3 ⟨rfl,g3⟩;rw [HI.o];have d1:=HV9.o _ g3;have d2:=b19.o _ g3)
     all_goals
       go_ret
       refine ⟨ret_bool ?_,HG.o.trans (g3.mono HG.o.size)⟩
       first | (rw [hE.o];done) | (rw [hE.o];simp_all)
theorem rregion_any {Q:Nat->BP} (m:MdlD) (p:Ph) (i:Nat) (w:World) (h:Mod Q w m p) (hm:MdlOk m) (hi:i<m.regs.length) :
   Calls Tryz.prog 77 #[mdV m p,.int .i64 i] w fun e w'=>e=.returned (.bool (rReg m i m.regs[i]))/\Bl w w':=by
 have l1:=hm.regs
 have l2:=hm.vers
 have HM:=hid (fun (wx:World) (hb:Bl w wx)=>h.below hb)
 have HB0:=hid (boxT w m p 33)
 have HN:=hid (rnamed_any m.regs[i].nm)
 have hn:=hm.regn m.regs[i] (List.getElem_mem hi)
 have hcap:=h.regs.cap (by omega)
 obtain ⟨rb,ro,hra,hrb,rc⟩:=h.regs.get hi
 obtain ⟨x,hx⟩:∃ x,x=m.regs[i]:=⟨_,rfl⟩
 rw [<- hx] at HN hn rc |-
 have hiI:(i:Int)<(m.regs.length:Int):=by omega
 have hi0:(0:Int)<=(i:Int):=by omega
 have HP:=hid (fun (wx:World)=>place_any x.own m.vers.length wx)
 have HE:Hid (rReg m i x=(nmd x.nm && if i=0 then x.own == -1 else Md.stM m x.own && noSub m x.own)):=by
   unfold Hid rReg
   split
   . rfl
   . rw [Bool.and_assoc]
 have HV:=hid (fun (v:Nat) (hv:v<m.vers.length)=>h.vers.get hv)
 have hvcap:=fun (v:Nat) (hv:v<m.vers.length)=>h.vers.cap (by omega)
 have HVc:=hid hvcap
 obtain ⟨r0,r1⟩:=rc
 unfold mdV
 rw [hra]
 have HB1:Hid (∀ o wx,Below (w.alloc o).heap.size (w.alloc o) wx->Bl w wx):=fun o wx g=>below_bx1 g
 clear h hm hx hra hvcap
 cases hb:nmd x.nm with
 | false =>
  have HI:=hid hb
  have hE:Hid (rReg m i x=false):=hid (by rw [HE.o,hb];rfl)
  clear hb HE
  go_enter Tryz.func77,Tryz.ntmps77
  go_wp2_with ((with_reducible refine (HN.o _ hn).mono ?_);rintro e w3 ⟨rfl,g3⟩;rw [HI.o])
  go_ret
  exact ⟨ret_bool (by rw [hE.o]),(below_al2 w _ _).trans (g3.mono (by simp;omega))⟩
 | true =>
  have HI:=hid hb
  clear hb
  have HD:Hid (∀ w3,Below ((w.alloc (.cells #[.string m.nm,.slice p.a1 m.vars.length p.c1,.slice p.a2 m.evs.length p.c2,.slice (some ⟨rb,ro,none⟩) m.regs.length p.c3,.slice p.a4 m.vers.length p.c4,.slice p.a5 m.trns.length p.c5] 33)).alloc (.cells #[.string x.nm,.int .i64 x.own] 84)).heap.size ((w.alloc (.cells #[.string m.nm,.slice p.a1 m.vars.length p.c1,.slice p.a2 m.evs.length p.c2,.slice (some ⟨rb,ro,none⟩) m.regs.length p.c3,.slice p.a4 m.vers.length p.c4,.slice p.a5 m.trns.length p.c5] 33)).alloc (.cells #[.string x.nm,.int .i64 x.own] 84)) w3->w3.cell? ⟨w.heap.size+1,1,none⟩=some (.int .i64 x.own)/\w3.cell? ⟨w.heap.size,4,none⟩=some (.slice p.a4 m.vers.length p.c4)/\Bl w w3):=by
    intro w3 g
    refine ⟨(g.cell (p:=⟨w.heap.size+1,1,none⟩) (by simp)).trans (by simp),(g.cell (p:=⟨w.heap.size,4,none⟩) (by simp;omega)).trans (by simp),(below_al2 w _ _).trans (g.mono (by simp;omega))⟩
  clear HB0 HB1 HM
  by_cases h0:i=0
  . have hE:Hid (rReg m i x=(x.own == -1)):=hid (by rw [HE.o,HI.o,if_pos h0];rfl)
    have hz:((i:Int) == 0)=true:=by subst h0;rfl
    clear HE h0 HP HV HVc
    go_enter Tryz.func77,Tryz.ntmps77
    go_wp2_with ((with_reducible refine (HN.o _ hn).mono ?_);rintro e w3 ⟨rfl,g3⟩;rw [HI.o];obtain ⟨d1,d2,d3⟩:=HD.o _ g3;have G3:=hid d3;clear d3 g3)
    go_ret
    refine ⟨ret_bool ?_,G3.o⟩
    rw [hE.o]
  . have hE:Hid (rReg m i x=(Md.stM m x.own && noSub m x.own)):=hid (by rw [HE.o,HI.o,if_neg h0];rfl)
    have hz:((i:Int) == 0)=false:=by simpa using h0
    clear HE h0
    by_cases hpl:0<=x.own/\x.own<m.vers.length
    . obtain ⟨v,hv⟩:∃ v:Nat,x.own=v:=⟨x.own.toNat,by omega⟩
      have hvl:v<m.vers.length:=by omega
      rw [hv] at hE HD HP r1
      have HPl:=hid (show (decide (0<=(v:Int)) && decide ((v:Int)<m.vers.length))=true by simp;omega)
      obtain ⟨vb,vo,hva,hvb,dv,hs,q0,q1,q2,q3,q4,q5,q6,q7⟩:=HV.o v hvl
      have hvc:=HVc.o v hvl
      have hvI:(v:Int)<(m.vers.length:Int):=by omega
      have hv0:(0:Int)<=(v:Int):=by omega
      have HS:Hid (Md.stM m v=(m.vers[v].kd == 1)):=by unfold Hid Md.stM;simp [hvl]
      have HNb:Hid (noSub m v=m.vers[v].sb.toList.isEmpty):=noSub_at hvl
      rw [HS.o,HNb.o] at hE
      have HQ:Hid (∀ w3,Bl w w3->w3.cell? ⟨vb,vo+v * 8+1,none⟩=some (.int .u8 m.vers[v].kd)/\w3.cell? ⟨vb,vo+v * 8+7,none⟩=some (.string m.vers[v].sb)):=fun w3 g =>
        ⟨(g.cell (p:=⟨vb,vo+v * 8+1,none⟩) hvb).trans q1,(g.cell (p:=⟨vb,vo+v * 8+7,none⟩) hvb).trans q7⟩
      generalize m.vers[v]=y at HQ hE
      clear HS HNb hs q0 q1 q2 q3 q4 q5 q6 q7 hpl hv HV HVc
      rw [hva] at HD |-
      clear hva
      go_enter Tryz.func77,Tryz.ntmps77
      go_wp2_with ((with_reducible refine (HN.o _ hn).mono ?_);rintro e w3 ⟨rfl,g3⟩;rw [HI.o];obtain ⟨d1,d2,d3⟩:=HD.o _ g3;have G3:=hid d3;clear d3 g3)
      (with_reducible refine (HP.o _).mono ?_)
      rintro e w4 ⟨rfl,rfl⟩
      rw [HPl.o]
      obtain ⟨d5,d6⟩:=HQ.o _ G3.o
      go_wp2_with fail
      . have hk:y.kd=1:=by omega
        go_ret
        refine ⟨ret_bool ?_,G3.o⟩
        rw [hE.o,hk]
        rfl
      . have hk:(y.kd == 1)=false:=by simp;omega
        go_ret
        refine ⟨ret_bool ?_,G3.o⟩
        rw [hE.o,hk]
        rfl
    . have HPl:=hid (show (decide (0<=x.own) && decide (x.own<m.vers.length))=false by simp;omega)
      have hS:Hid (rReg m i x=false):=hid (by
        rw [hE.o]
        unfold Md.stM
        by_cases h0:0<=x.own
        . rw [show m.vers[x.own.toNat]? = none from List.getElem?_eq_none (by omega)];simp
        . simp [h0])
      clear hE HV HVc hpl
      go_enter Tryz.func77,Tryz.ntmps77
      go_wp2_with ((with_reducible refine (HN.o _ hn).mono ?_);rintro e w3 ⟨rfl,g3⟩;rw [HI.o];obtain ⟨d1,d2,d3⟩:=HD.o _ g3;have G3:=hid d3;clear d3 g3)
      (with_reducible refine (HP.o _).mono ?_)
      rintro e w4 ⟨rfl,rfl⟩
      rw [HPl.o]
      go_wp2_with fail
      go_ret
      exact ⟨ret_bool (by rw [hS.o]),G3.o⟩
structure Two (Q:Nat->BP) (Q':BP) (w:World) (m:MdlD) (p:Ph) (xnm:ByteArray) (xkd:Nat) (xrg xof:Int) (xen xex:ByteArray) (a:Option Addr) (df:List ByteArray) (c:Nat) (xsb:ByteArray) (wx:World):Prop where
 b:Bl w wx
 b3:wx.cell? ⟨w.heap.size,3,none⟩=some (.slice p.a3 m.regs.length p.c3)
 b4:wx.cell? ⟨w.heap.size,4,none⟩=some (.slice p.a4 m.vers.length p.c4)
 p0:wx.cell? ⟨w.heap.size+1,0,none⟩=some (.string xnm)
 p1:wx.cell? ⟨w.heap.size+1,1,none⟩=some (.int .u8 xkd)
 p2:wx.cell? ⟨w.heap.size+1,2,none⟩=some (.int .i64 xrg)
 p3:wx.cell? ⟨w.heap.size+1,3,none⟩=some (.int .i64 xof)
 p4:wx.cell? ⟨w.heap.size+1,4,none⟩=some (.string xen)
 p5:wx.cell? ⟨w.heap.size+1,5,none⟩=some (.string xex)
 p6:wx.cell? ⟨w.heap.size+1,6,none⟩=some (.slice a df.length c)
 p7:wx.cell? ⟨w.heap.size+1,7,none⟩=some (.string xsb)
 q0:wx.cell? ⟨w.heap.size,0,none⟩=some (.string m.nm)
 q1:wx.cell? ⟨w.heap.size,1,none⟩=some (.slice p.a1 m.vars.length p.c1)
 q2:wx.cell? ⟨w.heap.size,2,none⟩=some (.slice p.a2 m.evs.length p.c2)
 q5:wx.cell? ⟨w.heap.size,5,none⟩=some (.slice p.a5 m.trns.length p.c5)
theorem rvertex_any {Q:Nat->BP} (m:MdlD) (p:Ph) (i:Nat) (w:World) (h:Mod Q w m p) (hm:MdlOk m) (hi:i<m.vers.length) :
   Calls Tryz.prog 78 #[mdV m p,.int .i64 i] w fun e w'=>e=.returned (.bool (rVer m m.vers[i]))/\Bl w w':=by
 have HE:Hid (rVer m m.vers[i]=(nmd m.vers[i].nm && decide (1<=m.vers[i].kd) && decide (m.vers[i].kd<=12) && liesM m m.vers[i] && (bare m.vers[i] || m.vers[i].kd == 1) && nmd m.vers[i].sb && decide (m.vers[i].en.size<=4096) && decide (m.vers[i].ex.size<=4096) && evsG m.evs [] m.vers[i].df)):=by unfold Hid;rfl
 have HR:Hid (bare m.vers[i]=(m.vers[i].en.toList.isEmpty && m.vers[i].ex.toList.isEmpty && m.vers[i].df.length == 0 && m.vers[i].sb.toList.isEmpty)):=by unfold Hid bare;rw [size0,size0,size0]
 have HLi:Hid (liesM m m.vers[i]=if m.vers[i].kd=10\/m.vers[i].kd=11 then m.vers[i].rg == -1 && Md.stM m m.vers[i].ofv else m.vers[i].ofv == -1 && decide (0<=m.vers[i].rg) && decide (m.vers[i].rg<m.regs.length)):=by unfold Hid;rfl
 have l1:=hm.regs
 have l2:=hm.vers
 have hok:=hm.verx m.vers[i] (List.getElem_mem hi)
 have hcap:=h.vers.cap (by omega)
 have hiI:(i:Int)<(m.vers.length:Int):=by omega
 have hi0:(0:Int)<=(i:Int):=by omega
 have HV:=hid (fun (v:Nat) (hv:v<m.vers.length)=>h.vers.get hv)
 have HN:=hid (fun wx=>rnamed_any m.vers[i].nm wx hok.nm)
 have HN2:=hid (fun wx=>rnamed_any m.vers[i].sb wx hok.sb)
 obtain ⟨rb,ro,hra,hrb,dv,hs,r0,r1,r2,r3,r4,r5,r6,r7⟩:=h.vers.get hi
 obtain ⟨a,c,rfl⟩:=hs.len
 have HEv:=hid (fun wx (hb:Bl w wx)=>revents_any m p a c m.vers[i].df wx (h.below hb) hm.evs (hs.kept (Kept.of_below hb)) hok.df)
 have z4:=hok.en
 have z5:=hok.ex
 have z6:=hok.df
 have z1:=hok.kd
 generalize rVer m m.vers[i]=R at HE |-
 generalize bare m.vers[i]=bB at HE HR
 generalize liesM m m.vers[i]=bL at HE HLi
 generalize evsG m.evs [] m.vers[i].df=bV at HE HEv
 clear h hm hs hok
 generalize m.vers[i]=x at *
 obtain ⟨xnm,xkd,xrg,xof,xen,xex,xdf,xsb⟩:=x
 simp only at HE HR HLi HN HN2 HEv z1 z4 z5 z6 r0 r1 r2 r3 r4 r5 r6 r7
 generalize nmd xnm=bN at HE HN
 generalize nmd xsb=bS at HE HN2
 have HF:Hid (∀ wx,Below ((w.alloc (.cells #[.string m.nm,.slice p.a1 m.vars.length p.c1,.slice p.a2 m.evs.length p.c2,.slice p.a3 m.regs.length p.c3,.slice p.a4 m.vers.length p.c4,.slice p.a5 m.trns.length p.c5] 33)).alloc (.cells #[.string xnm,.int .u8 xkd,.int .i64 xrg,.int .i64 xof,.string xen,.string xex,.slice a xdf.length c,.string xsb] 86)).heap.size ((w.alloc (.cells #[.string m.nm,.slice p.a1 m.vars.length p.c1,.slice p.a2 m.evs.length p.c2,.slice p.a3 m.regs.length p.c3,.slice p.a4 m.vers.length p.c4,.slice p.a5 m.trns.length p.c5] 33)).alloc (.cells #[.string xnm,.int .u8 xkd,.int .i64 xrg,.int .i64 xof,.string xen,.string xex,.slice a xdf.length c,.string xsb] 86)) wx ->
     Two Q anyB w m p xnm xkd xrg xof xen xex a xdf c xsb wx):=by
   intro wx g
   constructor
   case b=>exact (below_al2 w _ _).trans (g.mono (by simp;omega))
   all_goals exact (g.cell (p:=⟨_,_,none⟩) (by simp <;> omega)).trans (by simp)
 unfold mdV at HEv |-
 rw [hra] at HF HEv |-
 rw [hra] at HV
 have HA:=hid hra
 clear hra
 go_enter Tryz.func78,Tryz.ntmps78
 go_wp2_with fail
 (with_reducible refine (HN.o _).mono ?_)
 rintro e w3 ⟨rfl,g3⟩
 have hF3:=hid (HF.o _ g3)
 have G3:=hid hF3.o.b
 have p7:=hF3.o.p7
 cases bN with
 | false =>
  have hE:Hid (R=false):=hid (by rw [HE.o];rfl)
  clear HE HR HLi HV HEv HF
  go_wp2_with fail
  go_ret
  exact ⟨ret_bool (by rw [hE.o]),G3.o⟩
 | true =>
  go_wp2_with fail
  (with_reducible refine (HN2.o _).mono ?_)
  rintro e w4 ⟨rfl,g4⟩
  have g34:=hid (g3.trans (g4.mono g3.size))
  have hF4:=hid (HF.o _ g34.o)
  have G4:=hid hF4.o.b
  have p1:=hF4.o.p1
  have p4:=hF4.o.p4
  have p5:=hF4.o.p5
  have p6:=hF4.o.p6
  clear p7 g4 g3 hF3 G3
  have q0:=hF4.o.q0
  have q1:=hF4.o.q1
  have q2:=hF4.o.q2
  have b3:=hF4.o.b3
  have b4:=hF4.o.b4
  have q5:=hF4.o.q5
  rw [HA.o] at b4
  cases bS with
  | false =>
   have hE:Hid (R=false):=hid (by rw [HE.o];simp)
   clear HE HR HLi HV HEv HF
   go_wp2_with fail
   go_ret
   exact ⟨ret_bool (by rw [hE.o]),G4.o⟩
  | true =>
   by_cases c1:(xkd:Int)<1
   . have hE:Hid (R=false):=hid (by rw [HE.o,show decide (1<=xkd)=false by simp;omega];simp)
     clear HE HR HLi HV HEv HF
     go_wp2_with fail
     go_ret
     exact ⟨ret_bool (by rw [hE.o]),G4.o⟩
   . by_cases c2:(12:Int)<(xkd:Int)
     . have hE:Hid (R=false):=hid (by rw [HE.o,show decide (xkd<=12)=false by simp;omega];simp)
       clear HE HR HLi HV HEv HF
       go_wp2_with fail
       go_ret
       exact ⟨ret_bool (by rw [hE.o]),G4.o⟩
     . by_cases c3:(4096:Int)<(xen.size:Int)
       . have hE:Hid (R=false):=hid (by rw [HE.o,show decide (xen.size<=4096)=false by simp;omega];simp)
         clear HE HR HLi HV HEv HF
         go_wp2_with fail
         go_ret
         exact ⟨ret_bool (by rw [hE.o]),G4.o⟩
       . by_cases c4:(4096:Int)<(xex.size:Int)
         . have hE:Hid (R=false):=hid (by rw [HE.o,show decide (xex.size<=4096)=false by simp;omega];simp)
           clear HE HR HLi HV HEv HF
           go_wp2_with fail
           go_ret
           exact ⟨ret_bool (by rw [hE.o]),G4.o⟩
         . have hE:Hid (R=(bL && (bB || xkd == 1) && bV)):=hid (by
             rw [HE.o,show decide (1<=xkd)=true by simp;omega,show decide (xkd<=12)=true by simp;omega,show decide (xen.size<=4096)=true by simp;omega,show decide (xex.size<=4096)=true by simp;omega];simp)
           clear HE
           go_wp2_with fail
           (with_reducible refine (HEv.o _ G4.o).mono ?_)
           rintro e w5 ⟨rfl,g5⟩
           clear p1 p4 p5 p6 q0 q1 q2 q5 b3 b4
           have hF5:=hid (HF.o _ (g34.o.trans (g5.mono g34.o.size)))
           have G5:=hid hF5.o.b
           have p1:=hF5.o.p1
           have p2:=hF5.o.p2
           have p3:=hF5.o.p3
           have p4:=hF5.o.p4
           have p5:=hF5.o.p5
           have p6:=hF5.o.p6
           have p7:=hF5.o.p7
           have b3:=hF5.o.b3
           have b4:=hF5.o.b4
           rw [HA.o] at b4
           clear g5 g34 hF4 G4 hF5 HEv HF
           generalize xdf.length=dn at p6 HR z6 |-
           cases bV with
           | false =>
            have hE1:Hid (R=false):=hid (by rw [hE.o];simp)
            clear hE HR HLi HV
            go_wp2_with fail
            go_ret
            exact ⟨ret_bool (by rw [hE1.o]),G5.o⟩
           | true =>
            by_cases hk:xkd=1
            . subst hk
              have hE1:Hid (R=(xof == -1 && decide (0<=xrg) && decide (xrg<m.regs.length))):=hid (by rw [hE.o,HLi.o];simp)
              clear hE HR HV HLi
              by_cases ho:xof=-1
              . have hE2:Hid (R=(decide (0<=xrg) && decide (xrg<m.regs.length))):=hid (by rw [hE1.o,ho];simp)
                have hob:(xof == -1)=true:=by simp [ho]
                have HP:=hid (fun wx=>place_any xrg m.regs.length wx)
                clear hE1
                go_wp2_with fail
                (with_reducible refine (HP.o _).mono ?_)
                rintro e w6 ⟨rfl,rfl⟩
                go_wp2_with fail
                go_ret
                exact ⟨ret_bool (by rw [hE2.o]),G5.o⟩
              . have hE2:Hid (R=false):=hid (by rw [hE1.o,show (xof == -1)=false by simpa using ho];simp)
                have hob:(xof == -1)=false:=by simpa using ho
                clear hE1
                go_wp2_with fail
                go_ret
                exact ⟨ret_bool (by rw [hE2.o]),G5.o⟩
            . have hkI:((xkd:Int) == 1)=false:=by simp;omega
              have hkI2:¬ (xkd:Int)=1:=by omega
              have hkI3:((xkd:Int) != 1)=true:=by simp;omega
              cases e1:xen.toList.isEmpty with
              | false =>
               have hb:bB=false:=by rw [HR.o,e1];simp
               have hE1:Hid (R=false):=hid (by rw [hE.o,hb,show (xkd == 1)=false by simp;omega];simp)
               clear hE HR HV
               go_wp2_with fail
               go_ret
               exact ⟨ret_bool (by rw [hE1.o]),G5.o⟩
              | true =>
              cases e2:xex.toList.isEmpty with
              | false =>
               have hb:bB=false:=by rw [HR.o,e2];simp
               have hE1:Hid (R=false):=hid (by rw [hE.o,hb,show (xkd == 1)=false by simp;omega];simp)
               clear hE HR HV
               go_wp2_with fail
               go_ret
               exact ⟨ret_bool (by rw [hE1.o]),G5.o⟩
              | true =>
              by_cases e3:(0:Int)<(dn:Int)
              . have hb:bB=false:=by rw [HR.o,show (dn == 0)=false by simp;omega];simp
                have e3b:0<dn:=by omega
                have hE1:Hid (R=false):=hid (by rw [hE.o,hb,show (xkd == 1)=false by simp;omega];simp)
                clear hE HR HV
                go_wp2_with fail
                go_ret
                exact ⟨ret_bool (by rw [hE1.o]),G5.o⟩
              obtain rfl:dn=0:=by omega
              cases e4:xsb.toList.isEmpty with
              | false =>
               have hb:bB=false:=by rw [HR.o,e4];simp
               have hE1:Hid (R=false):=hid (by rw [hE.o,hb,show (xkd == 1)=false by simp;omega];simp)
               clear hE HR HV
               go_wp2_with fail
               go_ret
               exact ⟨ret_bool (by rw [hE1.o]),G5.o⟩
              | true =>
              have hb:bB=true:=by
                rw [HR.o,e1,e2,e4];rfl
              by_cases ht:xkd=10\/xkd=11
              . have hE1:Hid (R=(xrg == -1 && Md.stM m xof)):=hid (by rw [hE.o,hb,HLi.o,if_pos ht];simp)
                clear hE HR HLi hb
                rcases ht with rfl | rfl
                all_goals
                 by_cases ho:xrg=-1
                 . have hE2:Hid (R=Md.stM m xof):=hid (by rw [hE1.o,ho];simp)
                   have HP:=hid (fun wx=>place_any xof m.vers.length wx)
                   clear hE1
                   by_cases hpl:0<=xof/\xof<m.vers.length
                   . obtain ⟨v,rfl⟩:∃ v:Nat,xof=v:=⟨xof.toNat,by omega⟩
                     have hvl:v<m.vers.length:=by omega
                     have HPl:=hid (show (decide (0<=(v:Int)) && decide ((v:Int)<m.vers.length))=true by simp;omega)
                     obtain ⟨vb,vo,hva,hvb,dv,hs,u0,u1,u2⟩:=HV.o v hvl
                     simp only [Option.some.injEq,Addr.mk.injEq,and_true] at hva
                     obtain ⟨rfl,rfl⟩:=hva
                     have hvI:(v:Int)<(m.vers.length:Int):=by omega
                     have hv0:(0:Int)<=(v:Int):=by omega
                     have HS:Hid (Md.stM m v=(m.vers[v].kd == 1)):=by unfold Hid Md.stM;simp [hvl]
                     rw [HS.o] at hE2
                     have d5:=(G5.o.cell (p:=⟨rb,ro+v * 8+1,none⟩) hvb).trans u1
                     generalize m.vers[v]=y at d5 hE2
                     clear HS hs u0 u1 u2 hpl HV
                     go_wp2_with fail
                     (with_reducible refine (HP.o _).mono ?_)
                     rintro e w6 ⟨rfl,rfl⟩
                     rw [HPl.o]
                     go_wp2_with fail
                     go_ret
                     exact ⟨ret_bool (by rw [hE2.o];exact nat_is _ 1),G5.o⟩
                   . have HPl:=hid (show (decide (0<=xof) && decide (xof<m.vers.length))=false by simp;omega)
                     have hS:Hid (R=false):=hid (by
                       rw [hE2.o]
                       unfold Md.stM
                       by_cases h0:0<=xof
                       . rw [show m.vers[xof.toNat]? = none from List.getElem?_eq_none (by omega)];simp
                       . simp [h0])
                     clear hE2 HV hpl
                     go_wp2_with fail
                     (with_reducible refine (HP.o _).mono ?_)
                     rintro e w6 ⟨rfl,rfl⟩
                     rw [HPl.o]
                     go_wp2_with fail
                     go_ret
                     exact ⟨ret_bool (by rw [hS.o]),G5.o⟩
                 . have hE2:Hid (R=false):=hid (by rw [hE1.o,show (xrg == -1)=false by simpa using ho];simp)
                   clear hE1
                   go_wp2_with fail
                   go_ret
                   exact ⟨ret_bool (by rw [hE2.o]),G5.o⟩
              . have hE1:Hid (R=(xof == -1 && decide (0<=xrg) && decide (xrg<m.regs.length))):=hid (by rw [hE.o,hb,HLi.o,if_neg ht];simp)
                have ht1:((xkd:Int) == 10)=false:=by simp;omega
                have ht2:((xkd:Int) == 11)=false:=by simp;omega
                clear hE HR HV HLi hb
                by_cases ho:xof=-1
                . have hE2:Hid (R=(decide (0<=xrg) && decide (xrg<m.regs.length))):=hid (by rw [hE1.o,ho];simp)
                  have hob:(xof == -1)=true:=by simp [ho]
                  have HP:=hid (fun wx=>place_any xrg m.regs.length wx)
                  clear hE1
                  go_wp2_with fail
                  (with_reducible refine (HP.o _).mono ?_)
                  rintro e w6 ⟨rfl,rfl⟩
                  go_wp2_with fail
                  go_ret
                  exact ⟨ret_bool (by rw [hE2.o]),G5.o⟩
                . have hE2:Hid (R=false):=hid (by rw [hE1.o,show (xof == -1)=false by simpa using ho];simp)
                  have hob:(xof == -1)=false:=by simpa using ho
                  clear hE1
                  go_wp2_with fail
                  go_ret
                  exact ⟨ret_bool (by rw [hE2.o]),G5.o⟩
structure TwoT (w:World) (m:MdlD) (p:Ph) (xnm:ByteArray) (xs xt:Int) (a:Option Addr) (tr:List ByteArray) (c:Nat) (xaf:Int) (xgd xef:ByteArray) (xkd:Nat) (wx:World):Prop where
 b:Bl w wx
 p0:wx.cell? ⟨w.heap.size+1,0,none⟩=some (.string xnm)
 p1:wx.cell? ⟨w.heap.size+1,1,none⟩=some (.int .i64 xs)
 p2:wx.cell? ⟨w.heap.size+1,2,none⟩=some (.int .i64 xt)
 p3:wx.cell? ⟨w.heap.size+1,3,none⟩=some (.slice a tr.length c)
 p4:wx.cell? ⟨w.heap.size+1,4,none⟩=some (.int .i64 xaf)
 p5:wx.cell? ⟨w.heap.size+1,5,none⟩=some (.string xgd)
 p6:wx.cell? ⟨w.heap.size+1,6,none⟩=some (.string xef)
 p7:wx.cell? ⟨w.heap.size+1,7,none⟩=some (.int .u8 xkd)
 q0:wx.cell? ⟨w.heap.size,0,none⟩=some (.string m.nm)
 q1:wx.cell? ⟨w.heap.size,1,none⟩=some (.slice p.a1 m.vars.length p.c1)
 q2:wx.cell? ⟨w.heap.size,2,none⟩=some (.slice p.a2 m.evs.length p.c2)
 q3:wx.cell? ⟨w.heap.size,3,none⟩=some (.slice p.a3 m.regs.length p.c3)
 q4:wx.cell? ⟨w.heap.size,4,none⟩=some (.slice p.a4 m.vers.length p.c4)
 q5:wx.cell? ⟨w.heap.size,5,none⟩=some (.slice p.a5 m.trns.length p.c5)
theorem rtransition_any {Q:Nat->BP} (m:MdlD) (p:Ph) (i:Nat) (w:World) (h:Mod Q w m p) (hm:MdlOk m) (hi:i<m.trns.length) :
   Calls Tryz.prog 80 #[mdV m p,.int .i64 i] w fun e w'=>e=.returned (.bool (rWay m m.trns[i]))/\Bl w w':=by
 have HE:Hid (rWay m m.trns[i]=(nmd m.trns[i].nm && (decide (0<=m.trns[i].src) && decide (m.trns[i].src<m.vers.length)) && (decide (0<=m.trns[i].tgt) && decide (m.trns[i].tgt<m.vers.length)) && evsG m.evs [] m.trns[i].tr && decide (0<=m.trns[i].af) && decide (m.trns[i].af<=65535) && (m.trns[i].af == 0 || m.trns[i].tr.length == 0) &&
   decide (1<=m.trns[i].kd) && decide (m.trns[i].kd<=3) && decide (m.trns[i].gd.size<=4096) && decide (m.trns[i].ef.size<=4096))):=by unfold Hid;rfl
 have l2:=hm.vers
 have l3:=hm.trns
 have hok:=hm.trnx m.trns[i] (List.getElem_mem hi)
 have hcap:=h.trns.cap (by omega)
 have hiI:(i:Int)<(m.trns.length:Int):=by omega
 have hi0:(0:Int)<=(i:Int):=by omega
 have HN:=hid (fun wx=>rnamed_any m.trns[i].nm wx hok.nm)
 have HP1:=hid (fun wx=>place_any m.trns[i].src m.vers.length wx)
 have HP2:=hid (fun wx=>place_any m.trns[i].tgt m.vers.length wx)
 obtain ⟨rb,ro,hra,hrb,dv,hs,r0,r1,r2,r3,r4,r5,r6,r7⟩:=h.trns.get hi
 obtain ⟨a,c,rfl⟩:=hs.len
 have HEv:=hid (fun wx (hb:Bl w wx)=>revents_any m p a c m.trns[i].tr wx (h.below hb) hm.evs (hs.kept (Kept.of_below hb)) hok.tr)
 have z4:=hok.gd
 have z5:=hok.ef
 have z6:=hok.tr
 have z1:=hok.kd
 generalize rWay m m.trns[i]=R at HE |-
 generalize evsG m.evs [] m.trns[i].tr=bV at HE HEv
 clear h hm hs hok
 generalize m.trns[i]=x at *
 obtain ⟨xnm,xs,xt,xtr,xaf,xgd,xef,xkd⟩:=x
 simp only at HE HN HP1 HP2 HEv z1 z4 z5 z6 r0 r1 r2 r3 r4 r5 r6 r7
 generalize nmd xnm=bN at HE HN
 generalize (decide (0<=xs) && decide (xs<(m.vers.length:Int)))=bS at HE HP1
 generalize (decide (0<=xt) && decide (xt<(m.vers.length:Int)))=bT at HE HP2
 have HF:Hid (∀ wx,Below ((w.alloc (.cells #[.string m.nm,.slice p.a1 m.vars.length p.c1,.slice p.a2 m.evs.length p.c2,.slice p.a3 m.regs.length p.c3,.slice p.a4 m.vers.length p.c4,.slice p.a5 m.trns.length p.c5] 33)).alloc (.cells #[.string xnm,.int .i64 xs,.int .i64 xt,.slice a xtr.length c,.int .i64 xaf,.string xgd,.string xef,.int .u8 xkd] 88)).heap.size ((w.alloc (.cells #[.string m.nm,.slice p.a1 m.vars.length p.c1,.slice p.a2 m.evs.length p.c2,.slice p.a3 m.regs.length p.c3,.slice p.a4 m.vers.length p.c4,.slice p.a5 m.trns.length p.c5] 33)).alloc (.cells #[.string xnm,.int .i64 xs,.int .i64 xt,.slice a xtr.length c,.int .i64 xaf,.string xgd,.string xef,.int .u8 xkd] 88)) wx->TwoT w m p xnm xs xt a xtr c xaf xgd xef xkd wx):=by
   intro wx g
   constructor
   case b=>exact (below_al2 w _ _).trans (g.mono (by simp;omega))
   all_goals exact (g.cell (p:=⟨_,_,none⟩) (by simp <;> omega)).trans (by simp)
 unfold mdV at HEv |-
 have HA:=hid hra
 rw [hra] at HF HEv |-
 clear hra
 go_enter Tryz.func80,Tryz.ntmps80
 go_wp2_with fail
 (with_reducible refine (HN.o _).mono ?_)
 rintro e w3 ⟨rfl,g3⟩
 have G3:=hid (HF.o _ g3).b
 have p1:=(HF.o _ g3).p1
 have p2:=(HF.o _ g3).p2
 have p3:=(HF.o _ g3).p3
 have q0:=(HF.o _ g3).q0
 have q1:=(HF.o _ g3).q1
 have q2:=(HF.o _ g3).q2
 have q3:=(HF.o _ g3).q3
 have q4:=(HF.o _ g3).q4
 have q5:=(HF.o _ g3).q5
 rw [HA.o] at q5
 cases bN with
 | false =>
  have hE:Hid (R=false):=hid (by rw [HE.o];rfl)
  clear HE HEv HF
  go_wp2_with fail
  go_ret
  exact ⟨ret_bool (by rw [hE.o]),G3.o⟩
 | true =>
  go_wp2_with fail
  (with_reducible refine (HP1.o _).mono ?_)
  rintro e w4 ⟨rfl,rfl⟩
  cases bS with
  | false =>
   have hE:Hid (R=false):=hid (by rw [HE.o];simp)
   clear HE HEv HF
   go_wp2_with fail
   go_ret
   exact ⟨ret_bool (by rw [hE.o]),G3.o⟩
  | true =>
   go_wp2_with fail
   (with_reducible refine (HP2.o _).mono ?_)
   rintro e w4 ⟨rfl,rfl⟩
   cases bT with
   | false =>
    have hE:Hid (R=false):=hid (by rw [HE.o];simp)
    clear HE HEv HF
    go_wp2_with fail
    go_ret
    exact ⟨ret_bool (by rw [hE.o]),G3.o⟩
   | true =>
    go_wp2_with fail
    (with_reducible refine (HEv.o _ G3.o).mono ?_)
    rintro e w5 ⟨rfl,g5⟩
    have hF5:=hid (HF.o _ (g3.trans (g5.mono g3.size)))
    clear p1 p2 p3 q0 q1 q2 q3 q4 q5 g5 g3
    have G5:=hid hF5.o.b
    have p3:=hF5.o.p3
    have p4:=hF5.o.p4
    have p5:=hF5.o.p5
    have p6:=hF5.o.p6
    have p7:=hF5.o.p7
    clear HF hF5 HEv G3 HN HP1 HP2
    generalize xtr.length=dn at p3 HE z6 |-
    cases bV with
    | false =>
     have hE:Hid (R=false):=hid (by rw [HE.o];simp)
     clear HE
     go_wp2_with fail
     go_ret
     exact ⟨ret_bool (by rw [hE.o]),G5.o⟩
    | true =>
     by_cases c1:(xkd:Int)<1
     . have hE:Hid (R=false):=hid (by rw [HE.o,show decide (1<=xkd)=false by simp;omega];simp)
       clear HE
       go_wp2_with fail
       go_ret
       exact ⟨ret_bool (by rw [hE.o]),G5.o⟩
     . by_cases c2:(3:Int)<(xkd:Int)
       . have hE:Hid (R=false):=hid (by rw [HE.o,show decide (xkd<=3)=false by simp;omega];simp)
         clear HE
         go_wp2_with fail
         go_ret
         exact ⟨ret_bool (by rw [hE.o]),G5.o⟩
       . have hE:Hid (R=(decide (0<=xaf) && decide (xaf<=65535) && (xaf == 0 || dn == 0) && decide (xgd.size<=4096) && decide (xef.size<=4096))):=hid (by
           rw [HE.o,show decide (1<=xkd)=true by simp;omega,show decide (xkd<=3)=true by simp;omega];simp)
         clear HE
         go_wp2_with fail
         all_goals
           go_ret
           refine ⟨ret_bool ?_,G5.o⟩
           rw [hE.o]
           clear hE G5 p3 p4 p5 p6 p7
           simp_all
           all_goals first | omega | (rw [Bool.eq_iff_iff];simp;omega)
theorem rmay2_any {Q:Nat->BP} (m:MdlD) (p:Ph) (i:Nat) (w:World) (h:Mod Q w m p) (hm:MdlOk m) (hi:i<m.vars.length) :
   Calls Tryz.prog 41 #[mdV m p,.int .i64 2,.int .i64 i] w fun e w'=>e=.returned (.bool (rVar m i m.vars[i]))/\Bl w w':=by
 have HC:=hid (fun wx (hb:Bl w wx)=>rvariable_any m p i wx (h.below hb) hm hi)
 have HB:=hid (below_al1 w (.cells #[.string m.nm,.slice p.a1 m.vars.length p.c1,.slice p.a2 m.evs.length p.c2,.slice p.a3 m.regs.length p.c3,.slice p.a4 m.vers.length p.c4,.slice p.a5 m.trns.length p.c5] 33))
 unfold mdV at HC |-
 clear h
 go_enter Tryz.func41,Tryz.ntmps41
 go_wp2_with fail
 (with_reducible refine (HC.o _ HB.o).mono ?_)
 rintro e w3 ⟨rfl,g3⟩
 have G3:=hid (HB.o.trans (g3.mono HB.o.size))
 clear g3 HC HB
 go_wp2_with fail
 go_ret
 exact ⟨ret_bool (by first | rfl | (rw [decide_eq_decide];omega)),G3.o⟩
theorem rmay4_any {Q:Nat->BP} (m:MdlD) (p:Ph) (i:Nat) (w:World) (h:Mod Q w m p) (hm:MdlOk m) (hi:i<m.regs.length) :
   Calls Tryz.prog 41 #[mdV m p,.int .i64 4,.int .i64 i] w fun e w'=>e=.returned (.bool (rReg m i m.regs[i]))/\Bl w w':=by
 have HC:=hid (fun wx (hb:Bl w wx)=>rregion_any m p i wx (h.below hb) hm hi)
 have HB:=hid (below_al1 w (.cells #[.string m.nm,.slice p.a1 m.vars.length p.c1,.slice p.a2 m.evs.length p.c2,.slice p.a3 m.regs.length p.c3,.slice p.a4 m.vers.length p.c4,.slice p.a5 m.trns.length p.c5] 33))
 unfold mdV at HC |-
 clear h
 go_enter Tryz.func41,Tryz.ntmps41
 go_wp2_with fail
 (with_reducible refine (HC.o _ HB.o).mono ?_)
 rintro e w3 ⟨rfl,g3⟩
 have G3:=hid (HB.o.trans (g3.mono HB.o.size))
 clear g3 HC HB
 go_wp2_with fail
 go_ret
 exact ⟨ret_bool (by first | rfl | (rw [decide_eq_decide];omega)),G3.o⟩
theorem rmay5_any {Q:Nat->BP} (m:MdlD) (p:Ph) (i:Nat) (w:World) (h:Mod Q w m p) (hm:MdlOk m) (hi:i<m.vers.length) :
   Calls Tryz.prog 41 #[mdV m p,.int .i64 5,.int .i64 i] w fun e w'=>e=.returned (.bool (rVer m m.vers[i]))/\Bl w w':=by
 have HC:=hid (fun wx (hb:Bl w wx)=>rvertex_any m p i wx (h.below hb) hm hi)
 have HB:=hid (below_al1 w (.cells #[.string m.nm,.slice p.a1 m.vars.length p.c1,.slice p.a2 m.evs.length p.c2,.slice p.a3 m.regs.length p.c3,.slice p.a4 m.vers.length p.c4,.slice p.a5 m.trns.length p.c5] 33))
 unfold mdV at HC |-
 clear h
 go_enter Tryz.func41,Tryz.ntmps41
 go_wp2_with fail
 (with_reducible refine (HC.o _ HB.o).mono ?_)
 rintro e w3 ⟨rfl,g3⟩
 have G3:=hid (HB.o.trans (g3.mono HB.o.size))
 clear g3 HC HB
 go_wp2_with fail
 go_ret
 exact ⟨ret_bool (by first | rfl | (rw [decide_eq_decide];omega)),G3.o⟩
theorem rmay6_any {Q:Nat->BP} (m:MdlD) (p:Ph) (i:Nat) (w:World) (h:Mod Q w m p) (hm:MdlOk m) (hU:UpOk m) (hi:i<m.vers.length) :
   Calls Tryz.prog 41 #[mdV m p,.int .i64 6,.int .i64 i] w fun e w'=>e=.returned (.bool (decide (deM m i<=64)))/\Bl w w':=by
 have HC:=hid (fun wx (hb:Bl w wx)=>rdeep_any m p i wx (h.below hb) hU hi hm.vers hm.regs)
 have HB:=hid (below_al1 w (.cells #[.string m.nm,.slice p.a1 m.vars.length p.c1,.slice p.a2 m.evs.length p.c2,.slice p.a3 m.regs.length p.c3,.slice p.a4 m.vers.length p.c4,.slice p.a5 m.trns.length p.c5] 33))
 unfold mdV at HC |-
 clear h
 go_enter Tryz.func41,Tryz.ntmps41
 go_wp2_with fail
 (with_reducible refine (HC.o _ HB.o).mono ?_)
 rintro e w3 ⟨rfl,g3⟩
 have G3:=hid (HB.o.trans (g3.mono HB.o.size))
 clear g3 HC HB
 go_wp2_with fail
 go_ret
 exact ⟨ret_bool (by first | rfl | (rw [decide_eq_decide];omega)),G3.o⟩
theorem rmay7_any {Q:Nat->BP} (m:MdlD) (p:Ph) (i:Nat) (w:World) (h:Mod Q w m p) (hm:MdlOk m) (hi:i<m.trns.length) :
   Calls Tryz.prog 41 #[mdV m p,.int .i64 7,.int .i64 i] w fun e w'=>e=.returned (.bool (rWay m m.trns[i]))/\Bl w w':=by
 have HC:=hid (fun wx (hb:Bl w wx)=>rtransition_any m p i wx (h.below hb) hm hi)
 have HB:=hid (below_al1 w (.cells #[.string m.nm,.slice p.a1 m.vars.length p.c1,.slice p.a2 m.evs.length p.c2,.slice p.a3 m.regs.length p.c3,.slice p.a4 m.vers.length p.c4,.slice p.a5 m.trns.length p.c5] 33))
 unfold mdV at HC |-
 clear h
 go_enter Tryz.func41,Tryz.ntmps41
 go_wp2_with fail
 (with_reducible refine (HC.o _ HB.o).mono ?_)
 rintro e w3 ⟨rfl,g3⟩
 have G3:=hid (HB.o.trans (g3.mono HB.o.size))
 clear g3 HC HB
 go_wp2_with fail
 go_ret
 exact ⟨ret_bool (by first | rfl | (rw [decide_eq_decide];omega)),G3.o⟩
end Go.Proofs

namespace Go.Proofs
open Go.RowKit Go.Lx Go.Md Go.Shelf Go.BigFrame Go.Rgi
open Lib(hid)
set_option maxRecDepth 100000
set_option maxHeartbeats 0
set_option linter.unusedVariables false
theorem rmay3_any {Q:Nat->BP} (m:MdlD) (p:Ph) (i:Nat) (w:World) (h:Mod Q w m p) (hm:MdlOk m) (hi:i<m.evs.length) :
   Calls Tryz.prog 41 #[mdV m p,.int .i64 3,.int .i64 i] w fun e w'=>e=.returned (.bool (rEv m i m.evs[i]))/\Bl w w':=by
 have HE:Hid (rEv m i m.evs[i]=(isNm m.evs[i] && !inL (m.evs.take i) m.evs[i])):=by unfold Hid;rfl
 have l1:=hm.evs
 have hn:=hm.evn m.evs[i] (List.getElem_mem hi)
 have hcap:=h.evs.cap (by omega)
 have hiI:(i:Int)<(m.evs.length:Int):=by omega
 have hi0:(0:Int)<=(i:Int):=by omega
 have hic:(i:Int)<=(p.c2:Int):=by omega
 have HX:=hid (boxT w m p 33)
 have HEv:=hid h.evs
 obtain ⟨vb,vo,hva,hvb,vc⟩:=h.evs.get hi
 have HN:=hid (fun wx=>isName_any m.evs[i] wx hn)
 obtain ⟨x,hx⟩:∃ x,x=m.evs[i]:=⟨_,rfl⟩
 rw [<- hx] at HE HN hn vc |-
 unfold mdV
 have HA:=hid hva
 rw [hva]
 clear h hx hva
 have HX1:=HX
 have HS:Hid (∀ W',Below (w.alloc (.cells #[.string m.nm,.slice p.a1 m.vars.length p.c1,.slice (some ⟨vb,vo,none⟩) m.evs.length p.c2,.slice p.a3 m.regs.length p.c3,.slice p.a4 m.vers.length p.c4,.slice p.a5 m.trns.length p.c5] 33)).heap.size (w.alloc (.cells #[.string m.nm,.slice p.a1 m.vars.length p.c1,.slice (some ⟨vb,vo,none⟩) m.evs.length p.c2,.slice p.a3 m.regs.length p.c3,.slice p.a4 m.vers.length p.c4,.slice p.a5 m.trns.length p.c5] 33)) W'->W'.cell? ⟨w.heap.size,2,none⟩=some (.slice (some ⟨vb,vo,none⟩) m.evs.length p.c2)/\W'.cell? ⟨vb,vo+i,none⟩=some (.string x)):=by
   intro W' g
   exact ⟨(g.cell (p:=⟨w.heap.size,2,none⟩) (by simp)).trans (by simp),(((below_al1 w _).trans (g.mono (by simp))).cell (p:=⟨vb,vo+i,none⟩) hvb).trans vc⟩
 have HRA:=hid (fun (W':World) (g:Bl w W')=>ramong_any (some ⟨vb,vo,none⟩) p.c2 (m.evs.take i) x W' (((HA.o ▸ HEv.o:SlS (Q 1) w (.slice (some ⟨vb,vo,none⟩) m.evs.length p.c2) m.evs).take (k:=i) (by omega)).kept (Kept.of_below g)) (by simp;omega))
 rw [show (m.evs.take i).length=i by simp;omega] at HRA
 cases hb:isNm x with
 | false =>
  have hE:Hid (rEv m i x=false):=hid (by rw [HE.o,hb];rfl)
  rw [hb] at HN
  clear HE hb
  go_enter Tryz.func41,Tryz.ntmps41
  go_wp2_with fail
  have hB0:Below (w.alloc (.cells #[.string m.nm,.slice p.a1 m.vars.length p.c1,.slice (some ⟨vb,vo,none⟩) m.evs.length p.c2,.slice p.a3 m.regs.length p.c3,.slice p.a4 m.vers.length p.c4,.slice p.a5 m.trns.length p.c5] 33)).heap.size (w.alloc (.cells #[.string m.nm,.slice p.a1 m.vars.length p.c1,.slice (some ⟨vb,vo,none⟩) m.evs.length p.c2,.slice p.a3 m.regs.length p.c3,.slice p.a4 m.vers.length p.c4,.slice p.a5 m.trns.length p.c5] 33)) (w.alloc (.cells #[.string m.nm,.slice p.a1 m.vars.length p.c1,.slice (some ⟨vb,vo,none⟩) m.evs.length p.c2,.slice p.a3 m.regs.length p.c3,.slice p.a4 m.vers.length p.c4,.slice p.a5 m.trns.length p.c5] 33)):=Below.refl _ _
  refine wp_region_any (by kernel_rfl) ?_
  change wpAny _ _ _ _ _ _ _ (World.drew _)
  refine hld HS.o (hB0.drew) (fun hHeld=>?_)
  refine tk 0 rfl ?_
  refine tk 1 rfl ?_
  refine tk 2 rfl ?_
  refine tk 3 rfl ?_
  refine tk 4 rfl ?_
  refine rd1 5 (fun K hK=>?_)
  (go_simp;(with_reducible refine (HN.o _).mono ?_);rintro e w3 ⟨rfl,hb3⟩;have hB3:=hB0.drew.trans hb3;go_wp2_with fail)
  refine nx hK ?_ (fun hH1=>?_)
  (first | exact HS.o _ (by assumption) | exact HS.o _ hB0.drew)
  clear hK K hHeld
  refine tk 6 rfl ?_
  refine tkP 7 rfl ?_
  refine tkP 8 rfl ?_
  refine tkP 9 rfl ?_
  refine tkP 10 rfl ?_
  refine tkP 11 rfl ?_
  refine tkP 12 rfl ?_
  refine tkP 13 rfl ?_
  refine tkP 14 rfl ?_
  refine tkP 15 rfl ?_
  refine tkP 16 rfl ?_
  refine tkP 17 rfl ?_
  refine tk 18 rfl ?_
  refine tk 19 rfl ?_
  refine dn ?_
  rotate_left
  all_goals
    go_wp2_with fail
    go_ret
    exact ⟨ret_bool (by rw [hE.o]),(below_al1 w _).trans (hB3.mono (by simp))⟩
 | true =>
  have hE:Hid (rEv m i x=!inL (m.evs.take i) x):=hid (by rw [HE.o,hb];rfl)
  rw [hb] at HN
  clear HE hb
  go_enter Tryz.func41,Tryz.ntmps41
  go_wp2_with fail
  have hB0:Below (w.alloc (.cells #[.string m.nm,.slice p.a1 m.vars.length p.c1,.slice (some ⟨vb,vo,none⟩) m.evs.length p.c2,.slice p.a3 m.regs.length p.c3,.slice p.a4 m.vers.length p.c4,.slice p.a5 m.trns.length p.c5] 33)).heap.size (w.alloc (.cells #[.string m.nm,.slice p.a1 m.vars.length p.c1,.slice (some ⟨vb,vo,none⟩) m.evs.length p.c2,.slice p.a3 m.regs.length p.c3,.slice p.a4 m.vers.length p.c4,.slice p.a5 m.trns.length p.c5] 33)) (w.alloc (.cells #[.string m.nm,.slice p.a1 m.vars.length p.c1,.slice (some ⟨vb,vo,none⟩) m.evs.length p.c2,.slice p.a3 m.regs.length p.c3,.slice p.a4 m.vers.length p.c4,.slice p.a5 m.trns.length p.c5] 33)):=Below.refl _ _
  refine wp_region_any (by kernel_rfl) ?_
  change wpAny _ _ _ _ _ _ _ (World.drew _)
  refine hld HS.o (hB0.drew) (fun hHeld=>?_)
  refine tk 0 rfl ?_
  refine tk 1 rfl ?_
  refine tk 2 rfl ?_
  refine tk 3 rfl ?_
  refine tk 4 rfl ?_
  refine rd1 5 (fun K hK=>?_)
  (go_simp;(with_reducible refine (HN.o _).mono ?_);rintro e w3 ⟨rfl,hb3⟩;have hB3:=hB0.drew.trans hb3;go_wp2_with fail)
  refine nx hK ?_ (fun hH1=>?_)
  (first | exact HS.o _ (by assumption) | exact HS.o _ hB0.drew)
  clear hK K hHeld
  refine tk 6 rfl ?_
  refine tk 7 rfl ?_
  refine tk 8 rfl ?_
  refine tk 9 rfl ?_
  refine tk 10 rfl ?_
  refine tk 11 rfl ?_
  refine tk 12 rfl ?_
  refine tk 13 rfl ?_
  refine tk 14 rfl ?_
  refine tk 15 rfl ?_
  refine rd1 16 (fun K hK=>?_)
  (go_simp;(with_reducible refine (HRA.o _ ((below_al1 w _).trans (hB3.mono (by simp)))).mono ?_);rintro e w4 ⟨rfl,rfl⟩;go_wp2_with fail)
  refine nx hK ?_ (fun hH2=>?_)
  (first | exact HS.o _ (by assumption) | exact HS.o _ hB0.drew)
  clear hK K hH1
  refine tk 17 rfl ?_
  refine tk 18 rfl ?_
  refine tk 19 rfl ?_
  refine dn ?_
  rotate_left
  all_goals
    go_wp2_with fail
    go_ret
    exact ⟨ret_bool (by rw [hE.o]),(below_al1 w _).trans (hB3.mono (by simp))⟩
end Go.Proofs

namespace Go.Md
open Go.Lx
open Lib(hid)
set_option maxRecDepth 100000
set_option maxHeartbeats 0
set_option linter.unusedVariables false
def manyR (m:MdlD) (r:Nat):Nat:=if r=2 then m.vars.length else if r=3 then m.evs.length else if r=4 then m.regs.length else if r=5 then m.vers.length else if r=6 then m.vers.length else m.trns.length
def mostR (r:Nat):Nat:=if r=2 then 64 else if r=3 then 64 else 512
def partR (r:Nat):Nat:=if r=2 then 2 else if r=3 then 3 else if r=4 then 4 else if r=5 then 5 else if r=6 then 5 else 6
def okR (m:MdlD) (r i:Nat):Bool :=
 if r=2 then (match m.vars[i]? with | some x=>rVar m i x | none=>true)
 else if r=3 then (match m.evs[i]? with | some x=>rEv m i x | none=>true)
 else if r=4 then (match m.regs[i]? with | some x=>rReg m i x | none=>true)
 else if r=5 then (match m.vers[i]? with | some x=>rVer m x | none=>true)
 else if r=6 then rDeep m i
 else (match m.trns[i]? with | some x=>rWay m x | none=>true)
theorem wrL_ext {α β:Type} {part most:Nat} {r:Nat->α->Bool} {r':Nat->β->Bool}:∀ {l:List α} {l':List β} {i:Nat},l.length=l'.length->(∀ k (h:k<l.length) (h':k<l'.length),r (i+k) l[k]=r' (i+k) l'[k])->wrL part most r i l=wrL part most r' i l'
 | [],[],i,_,_=>rfl
 | x :: t,y :: t',i,hl,h=>by
   have h0:=h 0 (by simp) (by simp)
   simp only [Nat.add_zero,List.getElem_cons_zero] at h0
   have ih:=wrL_ext (part:=part) (most:=most) (r:=r) (r':=r') (l:=t) (l':=t') (i:=i+1) (by simpa using hl) (fun k hk hk'=>by
     have:=h (k+1) (by simpa using hk) (by simpa using hk')
     simpa [Nat.add_assoc,Nat.add_comm 1 k] using this)
   unfold wrL
   rw [h0,ih]
def fAt (m:MdlD) (r i:Nat):Flt:=wrL (partR r) (mostR r) (fun j _=>okR m r j) i ((List.range (manyR m r)).drop i)
theorem fAt_step {m:MdlD} {r i:Nat} (h:i<manyR m r):fAt m r i=if i=mostR r then (partR r,mostR r,3) else if okR m r i then fAt m r (i+1) else (partR r,i,130):=by
 unfold fAt
 rw [wrL_drop (by simpa using h)]
theorem fAt_end {m:MdlD} {r i:Nat} (h:manyR m r<=i):fAt m r i=(0,0,0):=by
 unfold fAt
 rw [List.drop_eq_nil_of_le (by simpa using h)]
 rfl
theorem fAt2 (m:MdlD):fAt m 2 0=f2 m:=by
 refine wrL_ext (by simp [manyR]) fun k h h'=>?_
 simp [okR,h']
theorem fAt3 (m:MdlD):fAt m 3 0=f3 m:=by
 refine wrL_ext (by simp [manyR]) fun k h h'=>?_
 simp [okR,h']
theorem fAt4 (m:MdlD) (h0:m.regs.length≠0):fAt m 4 0=f4 m:=by
 unfold f4
 rw [if_neg h0]
 refine wrL_ext (by simp [manyR]) fun k h h'=>?_
 simp [okR,h']
theorem fAt5 (m:MdlD):fAt m 5 0=f5 m:=by
 refine wrL_ext (by simp [manyR]) fun k h h'=>?_
 simp [okR,h']
theorem fAt6 (m:MdlD):fAt m 6 0=f6 m:=by
 refine wrL_ext (by simp [manyR]) fun k h h'=>?_
 simp [okR]
theorem fAt7 (m:MdlD):fAt m 7 0=f7 m:=by
 refine wrL_ext (by simp [manyR]) fun k h h'=>?_
 simp [okR,h']
def fR (m:MdlD) (r:Nat):Flt:=if r=4/\m.regs.length=0 then (4,0,130) else fAt m r 0
def rstN (m:MdlD):Nat->Flt
 | 0=>(0,0,0)
 | k+1=>fst2 (fR m (7 - k)) (rstN m k)
def rst (m:MdlD) (r:Nat):Flt:=rstN m (8 - r)
theorem rst_end (m:MdlD):rst m 8=(0,0,0):=rfl
theorem rst_step (m:MdlD) {r:Nat} (h:r<8):rst m r=fst2 (fR m r) (rst m (r+1)):=by
 unfold rst
 obtain ⟨k,hk⟩:∃ k,8 - r=k+1:=⟨7 - r,by omega⟩
 rw [hk,show 8 - (r+1)=k by omega]
 show fst2 (fR m (7 - k)) (rstN m k)=_
 rw [show 7 - k=r by omega]
theorem fst2_id {a:Flt} (h:Fine a):fst2 a (0,0,0)=a:=by
 unfold fst2
 rcases h with h | h
 . rw [h];rfl
 . rw [if_neg h.1]
theorem rst_all (m:MdlD):riM m=fst2 (f1 m) (rst m 2):=by
 have h4:fR m 4=f4 m:=by
   unfold fR
   by_cases h:m.regs.length=0
   . rw [if_pos ⟨rfl,h⟩];unfold f4;rw [if_pos h]
   . rw [if_neg (by simp [h]),fAt4 m h]
 have hf:Fine (f7 m):=wrL_is' (by decide)
 rw [rst_step m (by decide:2<8),rst_step m (by decide:3<8),rst_step m (by decide:4<8),rst_step m (by decide:5<8),rst_step m (by decide:6<8),rst_step m (by decide:7<8),rst_end,h4]
 unfold fR
 simp only [show ¬ ((2:Nat)=4/\m.regs.length=0) by simp,show ¬ ((2+1:Nat)=4/\m.regs.length=0) by simp,show ¬ ((5:Nat)=4/\m.regs.length=0) by simp,show ¬ ((6:Nat)=4/\m.regs.length=0) by simp,show ¬ ((7:Nat)=4/\m.regs.length=0) by simp,if_false]
 simp only [fAt2,fAt3,fAt5,fAt6,fAt7,fst2_id hf]
 rfl
end Go.Md

namespace Go.Proofs
open Go.RowKit Go.Lx Go.Md Go.Shelf Go.BigFrame
open Lib(hid)
set_option maxRecDepth 100000
set_option maxHeartbeats 0
set_option linter.unusedVariables false
theorem rmay_any {Q:Nat->BP} (m:MdlD) (p:Ph) (r i:Nat) (w:World) (h:Mod Q w m p) (hm:MdlOk m) (h2:2<=r) (h8:r<8) (hU:r=6->UpOk m) (hi:i<manyR m r) :
   Calls Tryz.prog 41 #[mdV m p,.int .i64 r,.int .i64 i] w fun e w'=>e=.returned (.bool (okR m r i))/\Bl w w':=by
 rcases (show r=2\/r=3\/r=4\/r=5\/r=6\/r=7 by omega) with rfl | rfl | rfl | rfl | rfl | rfl
 . have hi':i<m.vars.length:=hi
   rw [show okR m 2 i=rVar m i m.vars[i] by simp [okR,hi']]
   exact rmay2_any m p i w h hm hi'
 . have hi':i<m.evs.length:=hi
   rw [show okR m 3 i=rEv m i m.evs[i] by simp [okR,hi']]
   exact rmay3_any m p i w h hm hi'
 . have hi':i<m.regs.length:=hi
   rw [show okR m 4 i=rReg m i m.regs[i] by simp [okR,hi']]
   exact rmay4_any m p i w h hm hi'
 . have hi':i<m.vers.length:=hi
   rw [show okR m 5 i=rVer m m.vers[i] by simp [okR,hi']]
   exact rmay5_any m p i w h hm hi'
 . have hi':i<m.vers.length:=hi
   exact rmay6_any m p i w h hm (hU rfl) hi'
 . have hi':i<m.trns.length:=hi
   rw [show okR m 7 i=rWay m m.trns[i] by simp [okR,hi']]
   exact rmay7_any m p i w h hm hi'
theorem cells_at {w:World} {b:Nat} {A:Array Value} {T:TypeId} (h:w.heap[b]? = some (.cells A T)) (r:Nat):w.cell? ⟨b,r,none⟩=A[r]? := by
 unfold World.cell?;simp only [h];rfl
theorem cells3 (w:World) (A B C:Array Value) (T0 T1 T2:TypeId) (r:Nat):(((w.alloc (.cells A T0)).alloc (.cells B T1)).alloc (.cells C T2)).cell? ⟨w.heap.size,r,none⟩=A[r]? /\ (((w.alloc (.cells A T0)).alloc (.cells B T1)).alloc (.cells C T2)).cell? ⟨w.heap.size+1,r,none⟩=B[r]? /\ (((w.alloc (.cells A T0)).alloc (.cells B T1)).alloc (.cells C T2)).cell? ⟨w.heap.size+1+1,r,none⟩=C[r]? := by
 refine ⟨cells_at (T:=T0) ?_ r,cells_at (T:=T1) ?_ r,cells_at (T:=T2) ?_ r⟩
 . rw [Below.heap_alloc _ _ _ (by simp;omega),Below.heap_alloc _ _ _ (by simp),World.alloc_heap_new]
 . rw [Below.heap_alloc _ _ _ (by simp)]
   have:=World.alloc_heap_new (w.alloc (.cells A T0)) (.cells B T1)
   rw [World.size_alloc] at this;exact this
 . have:=World.alloc_heap_new ((w.alloc (.cells A T0)).alloc (.cells B T1)) (.cells C T2)
   rw [World.size_alloc,World.size_alloc] at this;exact this
theorem rright_any {Q:Nat->BP} (m:MdlD) (p:Ph) (w:World) (h:Mod Q w m p) (hm:MdlOk m) :
   Calls Tryz.prog 20 #[mdV m p] w fun e w'=>e=.returned (.tuple #[.int .u8 (riM m).1,.int .i64 (riM m).2.1,.int .i64 (riM m).2.2])/\Bl w w':=by
 have HX:=hid (boxT w m p 33)
 have HM:=hid (fun (wx:World) (hb:Bl w wx)=>h.below hb)
 have HN:=hid (fun wx=>isName_any m.nm wx hm.nm)
 have HR:=hid (rst_all m)
 unfold mdV
 clear h
 go_enter Tryz.func20,Tryz.ntmps20
 go_wp2_with fail
 (with_reducible refine (HN.o _).mono ?_)
 rintro e w3 ⟨rfl,g3⟩
 have HX3:=hid (HX.o.below g3 HX.o.sl)
 have G3:=hid ((below_al1 w _).trans (g3.mono (by simp)))
 have c1:=HX3.o.c1
 have c2:=HX3.o.c2
 have c3:=HX3.o.c3
 have c4:=HX3.o.c4
 have c5:=HX3.o.c5
 cases hb:isNm m.nm with
 | false =>
  have hE:Hid (riM m=(1,0,130)):=hid (by rw [HR.o];unfold f1 fst2;rw [hb];rfl)
  clear HM HR hb HN
  go_wp2_with fail
  go_ret3
  exact ⟨by rw [hE.o];rfl,G3.o⟩
 | true =>
  have hE:Hid (riM m=rst m 2):=hid (by rw [HR.o];unfold f1 fst2;rw [hb];rfl)
  clear HR hb HN
  have z3:w.heap.size<w3.heap.size:=by have:=HX3.o.sl;have:=g3.size;simp at this;omega
  have HD:Hid (∀ wx,Below (((w3.alloc (.cells #[.int .i64 0,.int .i64 0,.int .i64 m.vars.length,.int .i64 m.evs.length,.int .i64 m.regs.length,.int .i64 m.vers.length,.int .i64 m.vers.length,.int .i64 m.trns.length] 3)).alloc (.cells #[.int .i64 0,.int .i64 0,.int .i64 64,.int .i64 64,.int .i64 512,.int .i64 512,.int .i64 512,.int .i64 512] 3)).alloc (.cells #[.int .u8 0,.int .u8 0,.int .u8 2,.int .u8 3,.int .u8 4,.int .u8 5,.int .u8 5,.int .u8 6] 5)).heap.size (((w3.alloc (.cells #[.int .i64 0,.int .i64 0,.int .i64 m.vars.length,.int .i64 m.evs.length,.int .i64 m.regs.length,.int .i64 m.vers.length,.int .i64 m.vers.length,.int .i64 m.trns.length] 3)).alloc (.cells #[.int .i64 0,.int .i64 0,.int .i64 64,.int .i64 64,.int .i64 512,.int .i64 512,.int .i64 512,.int .i64 512] 3)).alloc (.cells #[.int .u8 0,.int .u8 0,.int .u8 2,.int .u8 3,.int .u8 4,.int .u8 5,.int .u8 5,.int .u8 6] 5)) wx->Box wx w.heap.size (.string m.nm) (.slice p.a1 m.vars.length p.c1) (.slice p.a2 m.evs.length p.c2) (.slice p.a3 m.regs.length p.c3) (.slice p.a4 m.vers.length p.c4) (.slice p.a5 m.trns.length p.c5)/\Bl w wx /\
      ∀ r:Nat,2<=r->r<8->wx.cell? ⟨w3.heap.size,r,none⟩=some (.int .i64 (manyR m r))/\wx.cell? ⟨w3.heap.size+1,r,none⟩=some (.int .i64 (mostR r))/\wx.cell? ⟨w3.heap.size+1+1,r,none⟩=some (.int .u8 (partR r))):=by
    intro wx g
    have g2:Bl w3 wx:=(((Below.refl _ w3).alloc (Nat.le_refl _) _).alloc (by simp) _ |>.alloc (by simp;omega) _).trans (g.mono (by simp;omega))
    refine ⟨HX3.o.below g2 z3,G3.o.trans (g2.mono G3.o.size),fun r h2 h8=>?_⟩
    rcases (show r=2\/r=3\/r=4\/r=5\/r=6\/r=7 by omega) with rfl | rfl | rfl | rfl | rfl | rfl
    all_goals
      obtain ⟨q0,q1,q2⟩:=cells3 w3 #[.int .i64 0,.int .i64 0,.int .i64 m.vars.length,.int .i64 m.evs.length,.int .i64 m.regs.length,.int .i64 m.vers.length,.int .i64 m.vers.length,.int .i64 m.trns.length] #[.int .i64 0,.int .i64 0,.int .i64 64,.int .i64 64,.int .i64 512,.int .i64 512,.int .i64 512,.int .i64 512] #[.int .u8 0,.int .u8 0,.int .u8 2,.int .u8 3,.int .u8 4,.int .u8 5,.int .u8 5,.int .u8 6] 3 3 5 _
      exact ⟨(g.cell (p:=⟨w3.heap.size,_,none⟩) (by simp;omega)).trans q0,(g.cell (p:=⟨w3.heap.size+1,_,none⟩) (by simp)).trans q1,(g.cell (p:=⟨w3.heap.size+1+1,_,none⟩) (by simp)).trans q2⟩
  clear HX3 HX
  go_wp2_with fail
  clear c1 c2 c3 c4 c5
  generalize (((w3.alloc (.cells #[.int .i64 0,.int .i64 0,.int .i64 m.vars.length,.int .i64 m.evs.length,.int .i64 m.regs.length,.int .i64 m.vers.length,.int .i64 m.vers.length,.int .i64 m.trns.length] 3)).alloc (.cells #[.int .i64 0,.int .i64 0,.int .i64 64,.int .i64 64,.int .i64 512,.int .i64 512,.int .i64 512,.int .i64 512] 3)).alloc (.cells #[.int .u8 0,.int .u8 0,.int .u8 2,.int .u8 3,.int .u8 4,.int .u8 5,.int .u8 5,.int .u8 6] 5))=W4 at *
  have HR:=hid (fun n (h:n<8)=>rst_step m h)
  have HF:=hid (fun n i (h:i<manyR m n)=>fAt_step (m:=m) (r:=n) h)
  have HFE:=hid (fun n i (h:manyR m n<=i)=>fAt_end (m:=m) (r:=n) h)
  have HF4:=hid (fun h=>fAt4 m h)
  have HF5:=hid (fAt5 m)
  have HUp:=hid (fun (h4:f4 m=(0,0,0)) (h5:f5 m=(0,0,0))=>upOk h4 h5)
  have HC:=hid (fun wx (hb:Bl w wx) (r i:Nat)=>rmay_any m p r i wx (HM.o wx hb) hm)
  have HQ:Hid (∀ n,manyR m n<=140737488355328):=fun n=>by
    have h1:=hm.vars
    have h2:=hm.evs
    have h3:=hm.regs
    have h4:=hm.vers
    have h5:=hm.trns
    unfold manyR;repeat' split
    all_goals assumption
  have HP:Hid (∀ n,2<=n->n<8->partR n≠0/\partR n<10/\mostR n<=512):=fun n h2 h8=>by
    rcases (show n=2\/n=3\/n=4\/n=5\/n=6\/n=7 by omega) with rfl | rfl | rfl | rfl | rfl | rfl <;> decide
  have hrl:=hm.regs
  clear hm HM
  unfold mdV at HC
  go_loopw [8] (fun r wr=>∃ n:Nat,2<=n/\n<=8/\r=.int .i64 n/\Bl W4 wr/\Hid (riM m=rst m n)/\Hid (5<=n->f4 m=(0,0,0))/\Hid (6<=n->UpOk m)) (fun r _=>8 - (intOf r).toNat)
  case atStart=>exact ⟨2,by omega,by omega,rfl,Below.refl _ _,hE,hid (by omega),hid (by omega)⟩
  case round =>
   obtain ⟨wo,rfl⟩:=ex1 wr
   obtain ⟨n,hn2,hn8,rfl,hb,hE2,h45,h6⟩:=hrel
   have HB:=hid hb
   clear hb hE
   obtain ⟨bx,gx,_⟩:=HD.o wo HB.o
   obtain ⟨b0,b1,b2,b3,b4,b5,_⟩:=bx
   clear gx
   by_cases hlt:n<8
   . have hI:(n:Int)<8:=by omega
     by_cases hz:n=4/\m.regs.length=0
     . obtain ⟨h4,hz0⟩:=hz
       have hV:Hid (riM m=(4,0,130)):=hid (by rw [hE2.o,HR.o n hlt];rw [show fR m n=(4,0,130) from if_pos ⟨h4,hz0⟩];rfl)
       have d1:((n:Int) == 4)=true:=by rw [h4];rfl
       have d2:((m.regs.length:Int) == 0)=true:=by rw [hz0];rfl
       have GB:=hid ((HD.o wo HB.o).2.1)
       clear HR HF HFE HF4 HF5 HUp HC hE2 h45 h6 hz0 h4 HD
       go_wp2_with fail
       go_ret3
       exact ⟨by rw [hV.o];rfl,GB.o⟩
     . have hV:Hid (riM m=fst2 (fAt m n 0) (rst m (n+1))):=hid (by rw [hE2.o,HR.o n hlt];unfold fR;rw [if_neg hz])
       have h45':Hid (4<=n->fAt m n 0=(0,0,0)->f4 m=(0,0,0)):=hid (fun h h2=>by
         by_cases h4:n=4
         . subst h4
           rw [HF4.o (fun h=>hz ⟨rfl,h⟩)] at h2;exact h2
         . exact h45.o (by omega))
       have h6':Hid (5<=n->fAt m n 0=(0,0,0)->UpOk m):=hid (fun h h2=>by
         by_cases h5:n=5
         . subst h5
           rw [HF5.o] at h2;exact HUp.o (h45.o (by omega)) h2
         . exact h6.o (by omega))
       have hd:((n:Int) == 4)=false\/(((n:Int) == 4)=true/\((m.regs.length:Int) == 0)=false):=by
         cases h1:((n:Int) == 4) with
         | false=>exact .inl rfl
         | true =>
          refine .inr ⟨rfl,?_⟩
          cases h2:((m.regs.length:Int) == 0) with
          | false=>rfl
          | true=>exact absurd ⟨by have:=eq_of_beq h1;omega,by have:=eq_of_beq h2;omega⟩ hz
       have HU0:Hid (n=6->UpOk m):=hid (fun h=>h6.o (by omega))
       clear hE2 h45 h6 HF4 HF5 HUp HR hz
       have HFn:=hid (fun i=>HF.o n i)
       have HFEn:=hid (fun i=>HFE.o n i)
       have hq:=HQ.o n
       obtain ⟨hp0,hp1,hp2⟩:=HP.o n hn2 hlt
       have HQ':Hid (∀ wx,Bl W4 wx->Box wx w.heap.size (.string m.nm) (.slice p.a1 m.vars.length p.c1) (.slice p.a2 m.evs.length p.c2) (.slice p.a3 m.regs.length p.c3) (.slice p.a4 m.vers.length p.c4) (.slice p.a5 m.trns.length p.c5)/\Bl w wx/\wx.cell? ⟨w3.heap.size,n,none⟩=some (.int .i64 (manyR m n))/\wx.cell? ⟨w3.heap.size+1,n,none⟩=some (.int .i64 (mostR n))/\wx.cell? ⟨w3.heap.size+1+1,n,none⟩=some (.int .u8 (partR n))):=fun wx g=>by
         obtain ⟨q1,q2,q3⟩:=HD.o wx g
         exact ⟨q1,q2,q3 n hn2 hlt⟩
       have HCn:=hid (fun wx hb i (hU:n=6->UpOk m) (hi:i<manyR m n)=>HC.o wx hb n i hn2 hlt hU hi)
       have HO:Hid (n=6->UpOk m):=HU0
       clear HF HFE HQ HP HD HC
       generalize hQ:manyR m n=q at *
       generalize mostR n=t at *
       generalize partR n=u at *
       have hn0:(0:Int)<=(n:Int):=by omega
       rcases hd with d1 | ⟨d1,d2⟩
       all_goals
         go_wp2_with fail
         go_loopw [9] (fun v wr=>∃ i:Nat,i<=q/\v=.int .i64 i/\Bl W4 wr/\Hid (fAt m n 0=fAt m n i)) (fun v _=>q - (intOf v).toNat)
         case atStart=>exact ⟨0,by omega,rfl,HB.o,hid rfl⟩
         case round =>
          obtain ⟨wi,rfl⟩:=ex1 wr
          obtain ⟨i,hi,rfl,hbi,hEi⟩:=hrel
          have HBi:=hid hbi
          clear hbi
          obtain ⟨bx,gx,y1,y2,y3⟩:=HQ'.o wi HBi.o
          have GX:=hid gx
          obtain ⟨b0,b1,b2,b3,b4,b5,_⟩:=bx
          clear gx
          have hi0:(0:Int)<=(i:Int):=by omega
          by_cases hiq:i<q
          . have hiI:(i:Int)<(q:Int):=by omega
            have hst:=HFn.o i hiq
            by_cases hit:i=t
            . have hdt:((i:Int) == (t:Int))=true:=by simp;omega
              have hV2:Hid (riM m=(u,i,3)):=hid (by rw [hV.o,hEi.o,hst,if_pos hit,<- hit];unfold fst2;rw [if_neg (by exact hp0)])
              clear hst hit hV HFn HFEn HCn HQ' HO hEi h45' h6'
              go_wp2_with fail
              go_ret3
              exact ⟨by rw [hV2.o];rfl,GX.o⟩
            . have hdt:((i:Int) == (t:Int))=false:=by simp;omega
              rw [if_neg hit] at hst
              have HCi:=hid (HCn.o wi GX.o i HO.o hiq)
              cases hok:okR m n i with
              | true =>
               rw [hok,if_pos rfl] at hst
               rw [hok] at HCi
               have hE3:Hid (fAt m n 0=fAt m n (i+1)):=hid (hEi.o.trans hst)
               clear hst hok hEi hit
               go_wp2_with fail
               refine (HCi.o).mono ?_
               rintro e w5 ⟨rfl,g5⟩
               go_wp2_with fail
               go_roundw
               case rel=>exact ⟨i+1,by omega,by go_num,HBi.o.trans (g5.mono HBi.o.size),hE3⟩
               case measure=>simp [intOf] <;> omega
              | false =>
               rw [hok] at hst HCi
               have hV2:Hid (riM m=(u,i,130)):=hid (by rw [hV.o,hEi.o,hst,if_neg Bool.false_ne_true];exact if_neg hp0)
               clear hst hok hEi hit hV
               go_wp2_with fail
               refine (HCi.o).mono ?_
               rintro e w5 ⟨rfl,g5⟩
               have HB5:=hid (HBi.o.trans (g5.mono HBi.o.size))
               obtain ⟨_,g6,_,_,z3⟩:=HQ'.o w5 HB5.o
               have G6:=hid g6
               clear g5 g6 b0 b1 b2 b3 b4 b5 y1 y2 y3
               go_wp2_with fail
               go_ret3
               exact ⟨by rw [hV2.o];rfl,G6.o⟩
          . have hz0:Hid (fAt m n 0=(0,0,0)):=hid (hEi.o.trans (HFEn.o i (by omega)))
            have hV2:Hid (riM m=rst m (n+1)):=hid (by rw [hV.o,hz0.o];rfl)
            have h4z:Hid (5<=n+1->f4 m=(0,0,0)):=hid (fun h=>h45'.o (by omega) hz0.o)
            have h6z:Hid (6<=n+1->UpOk m):=hid (fun h=>h6'.o (by omega) hz0.o)
            clear hV hz0 hEi HFn HFEn HCn HO h45' h6'
            go_wp2_with fail
            go_roundw
            case rel=>exact ⟨n+1,by omega,by omega,by go_num,HBi.o,hV2,h4z,h6z⟩
            case measure=>simp [intOf] <;> omega
   . obtain rfl:n=8:=by omega
     have hV:Hid (riM m=(0,0,0)):=hid (hE2.o.trans (rst_end m))
     have GB:=hid ((HD.o wo HB.o).2.1)
     clear HR HF HFE HF4 HF5 HUp HC hE2 h45 h6 HD
     go_wp2_with fail
     go_ret3
     exact ⟨by rw [hV.o];rfl,GB.o⟩
end Go.Proofs
