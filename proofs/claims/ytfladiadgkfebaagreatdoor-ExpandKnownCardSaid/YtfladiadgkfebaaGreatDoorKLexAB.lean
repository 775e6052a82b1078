/- Walks of the small functions on tokens: digit, letter, run, blanks, the predicates. -/
import Derived.Test.YtfladiadgkfebaaGreatDoorKLexPP
import Derived.Test.YtfladiadgkfebaaGreatDoorKShelf
import Derived.Outline
import Derived.WalkSpells
import Derived.WalkLawsBesides
import Derived.Laws.IdiomStrings
import Derived.Laws.Rows
import Derived.Below
import Derived.IntWalk
namespace Go.Proofs
open Go.RowKit Go.Lx
open Lib(hid)
set_option maxRecDepth 100000
set_option maxHeartbeats 0
theorem ret_int {k:IntKind} {a b:Int} (h:a=b):Ending.returned (.int k a)=.returned (.int k b):=by rw [h]
theorem ret_bool {a b:Bool} (h:a=b):Ending.returned (.bool a)=.returned (.bool b):=by rw [h]
def pfx (a b:List UInt8):Bool:=a.isPrefixOf b
theorem hasPrefix_any (s t:ByteArray) (w:World):Calls Tryz.prog 127 #[.string s,.string t] w fun e w'=>e=.returned (.bool (pfx t.data.toList s.data.toList))/\w=w' :=
 (Tryz.strings_HasPrefix s t w).mono fun _ _ ⟨he,hw⟩=>⟨he,hw.symm⟩
theorem digit_any (c:UInt8) (w:World):Calls Tryz.prog 128 #[.int .u8 (c.toNat:Int)] w fun e w'=>e=.returned (.bool (isDig c))/\w=w':=by
 go_enter Tryz.func128,Tryz.ntmps128
 go_wp2
 all_goals
   go_ret
   refine ⟨ret_bool ?_,rfl⟩
   rw [Bool.eq_iff_iff,isDig_iff]
   simp
   try omega
theorem rdigit_any (c:UInt8) (w:World):Calls Tryz.prog 126 #[.int .u8 (c.toNat:Int)] w fun e w'=>e=.returned (.bool (isDig c))/\w=w':=by
 go_enter Tryz.func126,Tryz.ntmps126
 go_wp2
 all_goals
   go_ret
   refine ⟨ret_bool ?_,rfl⟩
   rw [Bool.eq_iff_iff,isDig_iff]
   simp
   try omega
theorem letter_any (c:UInt8) (w:World):Calls Tryz.prog 130 #[.int .u8 (c.toNat:Int)] w fun e w'=>e=.returned (.bool (isLet c))/\w=w':=by
 go_enter Tryz.func130,Tryz.ntmps130
 go_wp2
 all_goals
   go_ret
   refine ⟨ret_bool ?_,rfl⟩
   have hb:=bits_or c
   rw [Bool.eq_iff_iff,isLet_iff]
   first | (simp at *;omega) | (simp;omega) | simp_all | omega
theorem rletter_any (c:UInt8) (w:World):Calls Tryz.prog 125 #[.int .u8 (c.toNat:Int)] w fun e w'=>e=.returned (.bool (isLet c))/\w=w':=by
 go_enter Tryz.func125,Tryz.ntmps125
 go_wp2
 all_goals
   go_ret
   refine ⟨ret_bool ?_,rfl⟩
   rw [Bool.eq_iff_iff,isLet_iff]
   simp
   try omega
theorem isLD_any (c:UInt8) (w:World):Calls Tryz.prog 131 #[.int .u8 (c.toNat:Int)] w fun e w'=>e=.returned (.bool (isLD c))/\w=w':=by
 go_enter Tryz.func131,Tryz.ntmps131
 go_wp2_with fail
 refine (letter_any _ _).mono ?_
 rintro e w' ⟨rfl,rfl⟩
 cases h:isLet c with
 | true =>
  have hx:Hid (isLD c=true):=by unfold Hid isLD;rw [h];rfl
  clear h
  go_wp2_with fail
  go_ret
  exact ⟨ret_bool (by rw [hx.o]),rfl⟩
 | false =>
  have hx:Hid (isLD c=isDig c):=by unfold Hid isLD;rw [h];rfl
  clear h
  go_wp2_with fail
  refine (digit_any _ _).mono ?_
  rintro e w' ⟨rfl,rfl⟩
  go_wp2_with fail
  go_ret
  exact ⟨ret_bool (by rw [hx.o]),rfl⟩
theorem run_isDig (s:ByteArray) (w:World) (hs:s.size<=maxLen) :
   Calls Tryz.prog 129 #[.string s,.func (.func 128) #[] #[]] w fun e w'=>e=.returned (.int .i64 (run isDig s.data.toList))/\w=w':=by
 unfold maxLen at hs
 go_enter Tryz.func129,Tryz.ntmps129
 go_wp2_with fail
 go_loop [5] (fun i=>∃ k:Nat,k<=s.size/\i=.int .i64 k/\run isDig s.data.toList=k+run isDig (s.data.toList.drop k)) (fun i=>s.size - (intOf i).toNat)
 case atStart=>exact ⟨0,by omega,rfl,by rw [List.drop_zero,Nat.zero_add]⟩
 case round =>
  obtain ⟨k,hk,rfl,hr0⟩:=hrel
  have hr:=hid hr0
  clear hr0
  by_cases hlt:k<s.size
  . have hd:=hid (get_drop hlt)
    cases hp:isDig s[k] with
    | true =>
     have hx:=hid (run_yes (p:=isDig) (t:=s.data.toList.drop (k+1)) hp)
     have hP:=hid hp
     clear hp
     go_wp2_with fail
     refine (digit_any _ _).mono ?_
     rintro e w' ⟨rfl,rfl⟩
     rw [hP.o]
     go_wp2_with fail
     go_round
     case rel=>exact ⟨k+1,by omega,by go_num,by rw [hr.o,hd.o,hx.o];omega⟩
     case measure=>simp [intOf];omega
    | false =>
     have hx:=hid (run_no (p:=isDig) (t:=s.data.toList.drop (k+1)) hp)
     have hP:=hid hp
     clear hp
     go_wp2_with fail
     refine (digit_any _ _).mono ?_
     rintro e w' ⟨rfl,rfl⟩
     rw [hP.o]
     go_wp2_with fail
     go_ret
     exact ⟨ret_int (by rw [hr.o,hd.o,hx.o];rfl),rfl⟩
  . have hx:Hid (s.data.toList.drop k=[]):=List.drop_eq_nil_of_le (by rw [size_eq];omega)
    go_wp2_with fail
    go_ret
    exact ⟨ret_int (by rw [hr.o,hx.o];rfl),rfl⟩
theorem run_isLD (s:ByteArray) (w:World) (hs:s.size<=maxLen) :
   Calls Tryz.prog 129 #[.string s,.func (.func 131) #[] #[]] w fun e w'=>e=.returned (.int .i64 (run isLD s.data.toList))/\w=w':=by
 unfold maxLen at hs
 go_enter Tryz.func129,Tryz.ntmps129
 go_wp2_with fail
 go_loop [5] (fun i=>∃ k:Nat,k<=s.size/\i=.int .i64 k/\run isLD s.data.toList=k+run isLD (s.data.toList.drop k)) (fun i=>s.size - (intOf i).toNat)
 case atStart=>exact ⟨0,by omega,rfl,by rw [List.drop_zero,Nat.zero_add]⟩
 case round =>
  obtain ⟨k,hk,rfl,hr0⟩:=hrel
  have hr:=hid hr0
  clear hr0
  by_cases hlt:k<s.size
  . have hd:=hid (get_drop hlt)
    cases hp:isLD s[k] with
    | true =>
     have hx:=hid (run_yes (p:=isLD) (t:=s.data.toList.drop (k+1)) hp)
     have hP:=hid hp
     clear hp
     go_wp2_with fail
     refine (isLD_any _ _).mono ?_
     rintro e w' ⟨rfl,rfl⟩
     rw [hP.o]
     go_wp2_with fail
     go_round
     case rel=>exact ⟨k+1,by omega,by go_num,by rw [hr.o,hd.o,hx.o];omega⟩
     case measure=>simp [intOf];omega
    | false =>
     have hx:=hid (run_no (p:=isLD) (t:=s.data.toList.drop (k+1)) hp)
     have hP:=hid hp
     clear hp
     go_wp2_with fail
     refine (isLD_any _ _).mono ?_
     rintro e w' ⟨rfl,rfl⟩
     rw [hP.o]
     go_wp2_with fail
     go_ret
     exact ⟨ret_int (by rw [hr.o,hd.o,hx.o];rfl),rfl⟩
  . have hx:Hid (s.data.toList.drop k=[]):=List.drop_eq_nil_of_le (by rw [size_eq];omega)
    go_wp2_with fail
    go_ret
    exact ⟨ret_int (by rw [hr.o,hx.o];rfl),rfl⟩
def tab:Array Value:=#[.string ⟨#[58,61]⟩,.string ⟨#[60,62]⟩,.string ⟨#[60,61]⟩,.string ⟨#[62,61]⟩,.string ⟨#[60]⟩,.string ⟨#[62]⟩,.string ⟨#[61]⟩,.string ⟨#[43]⟩,.string ⟨#[45]⟩,.string ⟨#[42]⟩,.string ⟨#[40]⟩,.string ⟨#[41]⟩,.string ⟨#[44]⟩,.string ⟨#[59]⟩]
def Tab (w:World):Prop:=(∃ t fr,w.heap[0]? = some (.cells tab t fr))/\∃ m:Int,w.cell? ⟨1,0,none⟩=some (.int .i64 m)
theorem Tab.size {w:World} (h:Tab w):1<w.heap.size:=by
 obtain ⟨⟨t,fr,h⟩,m,hm⟩:=h
 have h1:=(Array.getElem?_eq_some_iff.1 h).1
 have h2:1<w.heap.size:=by
   unfold World.cell? at hm
   cases ho:w.heap[1]? with
   | none=>rw [ho] at hm;cases hm
   | some o=>exact (Array.getElem?_eq_some_iff.1 ho).1
 omega
theorem Tab.below {w w':World} {B:Nat} (h:Tab w) (hb:Below B w w') (hB:1<B):Tab w':=by
 obtain ⟨⟨t,fr,h⟩,m,hm⟩:=h
 exact ⟨⟨t,fr,(hb.block _ (by omega)).trans h⟩,m,(hb.cell (p:=⟨_,0,none⟩) (by show _<B;omega)).trans hm⟩
theorem Tab.next {w w':World} (h:Tab w) (hb:Bl w w'):Tab w':=h.below hb h.size
theorem tab_at (k:Nat) (h:k<14):∃ b:ByteArray,tab[k]? = some (.string b)/\signL[k]? = some b.data.toList:=by
 have:k=0\/k=1\/k=2\/k=3\/k=4\/k=5\/k=6\/k=7\/k=8\/k=9\/k=10\/k=11\/k=12\/k=13:=by omega
 rcases this with rfl | rfl | rfl | rfl | rfl | rfl | rfl | rfl | rfl | rfl | rfl | rfl | rfl | rfl <;> exact ⟨_,rfl,rfl⟩
theorem Tab.cell {w:World} (h:Tab w) (k:Nat) (hk:k<14):∃ b:ByteArray,w.cell? ⟨0,k,none⟩=some (.string b)/\signL[k]? = some b.data.toList:=by
 obtain ⟨⟨t,fr,h⟩,_⟩:=h
 obtain ⟨b,h1,h2⟩:=tab_at k hk
 exact ⟨b,by unfold World.cell?;simp only [h];exact h1,h2⟩
def sgnI (l:List UInt8):Option Nat:=signL.findIdx? fun t=>t.isPrefixOf l
theorem sgnI_none {l:List UInt8} (h:sgnI l=none):sgn l=0:=by
 unfold sgnI at h;unfold sgn
 rw [List.findIdx?_eq_none_iff] at h
 rw [List.find?_eq_none.2 (fun x hx hh=>by have:=h x hx;rw [this] at hh;cases hh)]
theorem sgnI_some {l:List UInt8} {i:Nat} (h:sgnI l=some i):∃ b:List UInt8,signL[i]? = some b/\sgn l=b.length/\0<b.length:=by
 unfold sgnI at h;unfold sgn
 rw [List.findIdx?_eq_some_iff_getElem] at h
 obtain ⟨hi,h1,h2⟩:=h
 have:signL.find? (fun t=>t.isPrefixOf l)=some signL[i]:=by
   rw [List.find?_eq_some_iff_getElem]
   exact ⟨h1,i,hi,rfl,fun j hj=>by have:=h2 j hj;show (!(signL[j].isPrefixOf l))=true;cases hq:signL[j].isPrefixOf l with
     | false=>rfl
     | true=>exact absurd hq this⟩
 rw [this]
 refine ⟨_,List.getElem?_eq_getElem hi,rfl,?_⟩
 have hall:∀ x ∈ signL,0<x.length:=by decide
 exact hall _ (List.getElem_mem hi)
def sgnR (l:List UInt8):Int:=match sgnI l with | none=>-1 | some i=>(i:Int)
theorem sgnR_none {l:List UInt8} (h:sgnI l=none):sgnR l=-1:=by unfold sgnR;rw [h]
theorem sgnR_some {l:List UInt8} {i:Nat} (h:sgnI l=some i):sgnR l=i:=by unfold sgnR;rw [h]
def NoSg (l:List UInt8) (k:Nat):Prop:=∀ j b,j<k->signL[j]? = some b->b.isPrefixOf l=false
theorem NoSg.some {l:List UInt8} {k:Nat} {b:List UInt8} (h:NoSg l k) (hb:signL[k]? = some b) (hp:b.isPrefixOf l=true):sgnI l=some k:=by
 unfold sgnI
 rw [List.findIdx?_eq_some_iff_getElem]
 obtain ⟨hk,rfl⟩:=List.getElem?_eq_some_iff.1 hb
 exact ⟨hk,hp,fun j hj=>by rw [h j _ hj (List.getElem?_eq_getElem (by omega))];simp⟩
theorem NoSg.none {l:List UInt8} (h:NoSg l 14):sgnI l=none:=by
 unfold sgnI
 rw [List.findIdx?_eq_none_iff]
 intro x hx
 obtain ⟨j,hj,rfl⟩:=List.getElem_of_mem hx
 exact h j _ hj (List.getElem?_eq_getElem hj)
theorem sgnfn_any (s b:ByteArray) (a:Nat) (w:World) (ha:w.cell? ⟨a,0,none⟩=some (.string s)) :
   Calls Tryz.prog 134 #[.string b,.pointer (some ⟨a,0,none⟩)] w fun e w'=>e=.returned (.bool (pfx b.data.toList s.data.toList))/\w=w':=by
 go_enter Tryz.func134,Tryz.ntmps134
 go_wp2_with fail
 refine (hasPrefix_any _ _ _).mono ?_
 rintro e w' ⟨rfl,rfl⟩
 go_wp2_with fail
 go_ret
 exact ⟨rfl,rfl⟩
theorem idx_any (s:ByteArray) (a:Nat) (w:World) (hT:Tab w) (ha:w.cell? ⟨a,0,none⟩=some (.string s)) :
   Calls Tryz.prog 133 #[.slice (some ⟨0,0,none⟩) 14 14,.func (.func 134) #[] #[.pointer (some ⟨a,0,none⟩)]] w
     fun e w'=>e=.returned (.int .i64 (sgnR s.data.toList))/\w=w':=by
 go_enter Tryz.func133,Tryz.ntmps133
 go_wp2_with fail
 go_loop [8,5] (fun i _=>∃ k:Nat,k<=14/\i=.int .i64 k/\NoSg s.data.toList k) (fun i _=>14 - (intOf i).toNat)
 case atStart=>exact ⟨0,by omega,rfl,fun j b hj=>by omega⟩
 case round =>
  obtain ⟨k,hk,rfl,hN0⟩:=hrel
  have hN:=hid hN0
  clear hN0
  by_cases hlt:k<14
  . obtain ⟨b,hb,hsg⟩:=hT.cell k hlt
    have hS:=hid hsg
    clear hsg
    go_wp2_with fail
    refine (sgnfn_any s b a _ ha).mono ?_
    rintro e w' ⟨rfl,rfl⟩
    cases hp:pfx b.data.toList s.data.toList with
    | true =>
     have hx:=hid (sgnR_some (hN.o.some hS.o hp))
     clear hp
     go_wp2_with fail
     go_ret
     exact ⟨ret_int hx.o.symm,rfl⟩
    | false =>
     have hx:Hid (NoSg s.data.toList (k+1)):=fun j c hj hc=>by
       rcases Nat.lt_or_ge j k with h | h
       . exact hN.o j c h hc
       . obtain rfl:j=k:=by omega
         have:=hc.symm.trans hS.o
         simp only [Option.some.injEq] at this
         rw [this];exact hp
     clear hp
     go_wp2_with fail
     go_round
     case rel=>exact ⟨k+1,by omega,by go_num,hx.o⟩
     case measure=>simp [intOf] <;> omega
  . obtain rfl:k=14:=by omega
    have hx:=hid hN.o.none
    go_wp2_with fail
    go_ret
    exact ⟨ret_int (sgnR_none hx.o).symm,rfl⟩
theorem ne_of_size {s:ByteArray} (h:0<s.size):s.data.toList≠[]:=fun e=>by
 have:=size_eq s;rw [e] at this;simp at this;omega
theorem isEmpty_of {s:ByteArray} (h:0<s.size):s.toList.isEmpty=false:=by
 rw [toList_eq'];simpa using ne_of_size h
theorem isLD_ne {c:UInt8} (h:isLD c=true):c≠32:=by
 rintro rfl;revert h;decide
theorem run_mem {p:UInt8->Bool}:∀ {l:List UInt8} {c:UInt8},c ∈ l.take (run p l)->p c=true
 | [],_,h=>by simp at h
 | a :: t,c,h=>by
   cases ha:p a with
   | true =>
    rw [run_yes ha,List.take_succ_cons,List.mem_cons] at h
    rcases h with rfl | h
    . exact ha
    . exact run_mem h
   | false=>rw [run_no ha] at h;simp at h
theorem contains_any (s:ByteArray) (l:List UInt8) (b:Bool) (m:Int) (w:World) (hl:s.data.toList=l) (hb:Lib.contains wordB l=b) (hm:w.cell? ⟨1,0,none⟩=some (.int .i64 m)) :
   Calls Tryz.prog 132 #[.string ⟨#[32,97,110,100,32,100,105,118,32,101,108,115,101,32,101,109,105,116,32,101,110,100,105,102,32,102,97,108,115,101,32,105,102,32,105,109,112,108,105,101,115,32,109,111,100,32,110,111,116,32,111,114,32,116,104,101,110,32,116,114,117,101,32,120,111,114,32]⟩,.string s] w fun e w'=>e=.returned (.bool b)/\w=w' :=
 (Tryz.strings_Contains _ s m w (by decide) hm).mono fun _ _ ⟨he,hw⟩=>⟨by rw [he,hl,<- hb];rfl,hw.symm⟩
theorem first_any (s:ByteArray) (w:World) (hT:Tab w) (hs:s.size<=140737488355328) :
   Calls Tryz.prog 122 #[.string s] w fun e w'=>e=.returned (.tuple #[.int .i64 ((first s.data.toList).1:Nat),.int .u8 ((first s.data.toList).2:Nat)])/\Bl w w':=by
 have hM:Hid (s.size<=maxLen):=by unfold Hid maxLen;omega
 by_cases h0:s.size=0
 . have hl:s.data.toList=[]:=List.length_eq_zero_iff.1 (by rw [size_eq];exact h0)
   have hF:Hid (first s.data.toList=(0,0)):=by unfold Hid;rw [hl];rfl
   have hb0:s.toList=[]:=by rw [toList_eq',hl]
   clear hl h0
   go_enter Tryz.func122,Tryz.ntmps122
   go_wp2_with fail
   go_ret2
   exact ⟨by rw [hF.o];rfl,(Below.refl _ _).alloc (Nat.le_refl _) _⟩
 have h1:0<s.size:=by omega
 have hb0:=isEmpty_of h1
 have hd:=get_drop h1
 rw [List.drop_zero] at hd
 have hR:Hid (pfx (ByteArray.mk #[45,45]).data.toList s.data.toList=rem s.data.toList):=rfl
 clear h0
 cases hrem:rem s.data.toList with
 | true =>
  have hF:Hid (first s.data.toList=(0,0)):=by unfold Hid;rw [hd] at hrem |-;simp only [first,hrem,if_true]
  rw [hrem] at hR
  clear hrem hd
  go_enter Tryz.func122,Tryz.ntmps122
  go_wp2_with fail
  refine (hasPrefix_any _ _ _).mono ?_
  rintro e w' ⟨rfl,rfl⟩
  rw [hR.o]
  go_wp2_with fail
  go_ret2
  exact ⟨by rw [hF.o];rfl,(Below.refl _ _).alloc (Nat.le_refl _) _⟩
 | false =>
  rw [hrem] at hR
  cases hdg:isDig s[0] with
  | true =>
   have hF:Hid (first s.data.toList=(run isDig s.data.toList,1)):=by unfold Hid;rw [hd] at hrem |-;simp only [first,hrem,hdg,if_true];rfl
   have hD:=hid hdg
   clear hrem hd hdg
   go_enter Tryz.func122,Tryz.ntmps122
   go_wp2_with fail
   refine (hasPrefix_any _ _ _).mono ?_
   rintro e w' ⟨rfl,rfl⟩
   rw [hR.o]
   go_wp2_with fail
   refine (digit_any _ _).mono ?_
   rintro e w' ⟨rfl,rfl⟩
   rw [hD.o]
   go_wp2_with fail
   refine (run_isDig _ _ hM.o).mono ?_
   rintro e w' ⟨rfl,rfl⟩
   go_wp2_with fail
   go_ret2
   exact ⟨by rw [hF.o];rfl,(Below.refl _ _).alloc (Nat.le_refl _) _⟩
  | false =>
   have hD:=hid hdg
   cases hlt:isLet s[0] with
   | true =>
    have hE:=hid hlt
    obtain ⟨n,hn⟩:∃ n,n=run isLD s.data.toList:=⟨_,rfl⟩
    have hnl:n<=s.size:=by have:=run_le isLD s.data.toList;rw [size_eq] at this;omega
    have hnp:0<n:=by rw [hn,hd,run_yes (by unfold isLD;rw [hlt];rfl)];omega
    have hW:Hid (Lib.contains wordB (32 :: s.data.toList.take n ++ [32])=wordL.contains (s.data.toList.take n)) :=
      words_eq (fun c hc=>by rw [hn] at hc;exact isLD_ne (run_mem hc)) (fun e=>by
        have:=congrArg List.length e
        rw [List.length_take,size_eq,List.length_nil] at this;omega)
    have hF:Hid (first s.data.toList=(n,if wordL.contains (s.data.toList.take n) then 3 else 2)):=by
      unfold Hid;rw [hn,hd];rw [hd] at hrem
      have h1:first (s[0] :: List.drop (0+1) s.data.toList)=if wordL.contains ((s[0] :: List.drop (0+1) s.data.toList).take (run isLD (s[0] :: List.drop (0+1) s.data.toList))) then (run isLD (s[0] :: List.drop (0+1) s.data.toList),3) else (run isLD (s[0] :: List.drop (0+1) s.data.toList),2):=by
        simp only [first,hrem,hdg,hlt,if_true];rfl
      rw [h1];split <;> rfl
    have hx:Hid ((ByteArray.mk #[32] ++ s.extract 0 n ++ ByteArray.mk #[32]).data.toList=32 :: s.data.toList.take n ++ [32]):=by
      unfold Hid;rw [app_data,app_data,ext_beg];rfl
    have hz1:(s.extract 0 n).size<=140737488355328:=by rw [ByteArray.size_extract];omega
    have hN:=hid hn
    clear hrem hd hdg hlt hn
    obtain ⟨_,mm,hmm⟩:=hT
    have hsz:=Tab.size ⟨‹_›,mm,hmm⟩
    go_enter Tryz.func122,Tryz.ntmps122
    go_wp2_with fail
    refine (hasPrefix_any _ _ _).mono ?_
    rintro e w' ⟨rfl,rfl⟩
    rw [hR.o]
    go_wp2_with fail
    refine (digit_any _ _).mono ?_
    rintro e w' ⟨rfl,rfl⟩
    rw [hD.o]
    go_wp2_with fail
    refine (letter_any _ _).mono ?_
    rintro e w' ⟨rfl,rfl⟩
    rw [hE.o]
    go_wp2_with fail
    refine (run_isLD _ _ hM.o).mono ?_
    rintro e w' ⟨rfl,rfl⟩
    rw [<- hN.o]
    go_wp2_with fail
    have hmc:(w.alloc (Obj.cells #[Value.string s] 9)).cell? ⟨1,0,none⟩=some (.int .i64 mm):=by
      rw [<- hmm];exact Below.cell ((Below.refl w.heap.size w).alloc (Nat.le_refl _) _) (p:=⟨_,0,none⟩) (by show _<_;omega)
    cases hc:wordL.contains (s.data.toList.take n) with
    | true =>
     rw [hc] at hW hF
     clear hc
     refine (contains_any _ _ true mm _ hx.o hW.o hmc).mono ?_
     rintro e w' ⟨rfl,rfl⟩
     clear hmc
     go_wp2_with fail
     go_ret2
     exact ⟨by rw [hF.o];rfl,(Below.refl _ _).alloc (Nat.le_refl _) _⟩
    | false =>
     rw [hc] at hW hF
     clear hc
     refine (contains_any _ _ false mm _ hx.o hW.o hmc).mono ?_
     rintro e w' ⟨rfl,rfl⟩
     clear hmc
     go_wp2_with fail
     go_ret2
     exact ⟨by rw [hF.o];rfl,(Below.refl _ _).alloc (Nat.le_refl _) _⟩
   | false =>
    have hE:=hid hlt
    have hF0:first s.data.toList=if sgn s.data.toList=0 then (0,0) else (sgn s.data.toList,4):=by
      rw [hd] at hrem |-
      simp only [first,hrem,hdg,hlt];rfl
    have HF:=hid hF0
    have hTT:=hT.next ((Below.refl w.heap.size w).alloc (Nat.le_refl _) (Obj.cells #[Value.string s] 9))
    have hcs:(w.alloc (Obj.cells #[Value.string s] 9)).cell? ⟨w.heap.size,0,none⟩=some (.string s):=World.cell?_alloc_new _ _ _ _
    have HC:=hid hcs
    clear hrem hd hdg hlt hF0 hcs
    go_enter Tryz.func122,Tryz.ntmps122
    go_wp2_with fail
    refine (hasPrefix_any _ _ _).mono ?_
    rintro e w' ⟨rfl,rfl⟩
    rw [hR.o]
    go_wp2_with fail
    refine (digit_any _ _).mono ?_
    rintro e w' ⟨rfl,rfl⟩
    rw [hD.o]
    go_wp2_with fail
    refine (letter_any _ _).mono ?_
    rintro e w' ⟨rfl,rfl⟩
    rw [hE.o]
    go_wp2_with fail
    refine (idx_any s _ _ hTT HC.o).mono ?_
    rintro e w' ⟨rfl,rfl⟩
    cases hi:sgnI s.data.toList with
    | none =>
     have hr:=hid (sgnR_none hi)
     have hF:Hid (first s.data.toList=(0,0)):=by unfold Hid;rw [HF.o,sgnI_none hi];rfl
     clear hi
     rw [hr.o]
     go_wp2_with fail
     go_ret2
     exact ⟨by rw [hF.o];rfl,(Below.refl _ _).alloc (Nat.le_refl _) _⟩
    | some i =>
     have hr:=hid (sgnR_some hi)
     obtain ⟨b,hb1,hb2,hb3⟩:=sgnI_some hi
     have hF:Hid (first s.data.toList=(b.length,4)):=by unfold Hid;rw [HF.o,hb2,if_neg (by omega)]
     have hi14:i<14:=(List.getElem?_eq_some_iff.1 hb1).1
     obtain ⟨bb,hbb,hbs⟩:=hTT.cell i hi14
     have hbl:b.length=bb.size:=by
       rw [hb1] at hbs;simp only [Option.some.injEq] at hbs;rw [hbs,size_eq]
     rw [hbl] at hF
     clear hi hb1 hb2 hbs hbl
     rw [hr.o]
     have hi0:(i:Int)<14:=by omega
     go_wp2_with fail
     go_ret2
     exact ⟨by rw [hF.o];rfl,(Below.refl _ _).alloc (Nat.le_refl _) _⟩
theorem lis_any (s:ByteArray) (w:World) (hT:Tab w) (hs:s.size<=140737488355328) :
   Calls Tryz.prog 96 #[.string s] w fun e w'=>e=.returned (.int .u8 (isT s.data.toList:Nat))/\Bl w w':=by
 have hF:∃ n k,first s.data.toList=(n,k):=⟨_,_,rfl⟩
 obtain ⟨n,k,hF⟩:=hF
 have hle:=first_le s.data.toList
 rw [hF,size_eq] at hle
 simp only at hle
 have hI:isT s.data.toList=if n=s.size/\s.size<=64 then k else 0:=by unfold isT;rw [hF,size_eq]
 have HF:=hid hF
 have HI:=hid hI
 clear hF hI
 go_enter Tryz.func96,Tryz.ntmps96
 go_wp2_with fail
 refine (first_any _ _ hT hs).mono ?_
 rintro e w' ⟨rfl,hb⟩
 rw [HF.o]
 simp only
 by_cases h1:n=s.size
 . by_cases h2:s.size<=64
   . have hi:Hid (isT s.data.toList=k):=by unfold Hid;rw [HI.o,if_pos ⟨h1,h2⟩]
     have hb1:((n:Int) != s.size)=false:=by rw [h1];simp
     have hb2:decide ((64:Int)<n)=false:=by simp;omega
     clear h1 HI
     go_wp2_with fail
     go_ret
     exact ⟨ret_int (by rw [hi.o]),hb⟩
   . have hi:Hid (isT s.data.toList=0):=by unfold Hid;rw [HI.o,if_neg (fun h=>h2 h.2)]
     have hb1:((n:Int) != s.size)=false:=by rw [h1];simp
     have hb2:decide ((64:Int)<n)=true:=by simp;omega
     clear h1 HI
     go_wp2_with fail
     go_ret
     exact ⟨ret_int (by rw [hi.o];rfl),hb⟩
 . have hi:Hid (isT s.data.toList=0):=by unfold Hid;rw [HI.o,if_neg (fun h=>h1 h.1)]
   have hb1:((n:Int) != s.size)=true:=by rw [bne_iff_ne];omega
   clear h1 HI
   go_wp2_with fail
   go_ret
   exact ⟨ret_int (by rw [hi.o];rfl),hb⟩
end Go.Proofs
