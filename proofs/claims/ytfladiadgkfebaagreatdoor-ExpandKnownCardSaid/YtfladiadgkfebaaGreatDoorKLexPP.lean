/- Plain facts on tokens: what is a blank, the token at a text's beginning, all tokens. -/
import Derived.Below
import Derived.WalkKit
import Derived.Lib.Hide
import Derived.Lib.Strings
import Derived.Lib.Bytealg
import Derived.Lib.IndexMore
namespace Go.RowKit
theorem Hid.o {p:Prop} (h:Hid p):p:=h
abbrev Bl (w x:World):Prop:=Below w.heap.size w x
theorem ex1 (w:World):∃ x,x=w:=⟨_,rfl⟩
theorem ex2 {α:Type} (w:α):∃ x,w=x:=⟨_,rfl⟩
end Go.RowKit
namespace Go.Lx
open Go.RowKit
def isDig (c:UInt8):Bool:=decide (48<=c.toNat) && decide (c.toNat<=57)
def isLet (c:UInt8):Bool:=(decide (65<=c.toNat) && decide (c.toNat<=90)) || (decide (97<=c.toNat) && decide (c.toNat<=122)) || decide (c.toNat=95)
def isLD (c:UInt8):Bool:=isLet c || isDig c
def isBl (c:UInt8):Bool:=decide (c.toNat=9) || decide (c.toNat=10) || decide (c.toNat=13) || decide (c.toNat=32)
theorem isDig_iff {c:UInt8}:isDig c=true↔48<=c.toNat/\c.toNat<=57:=by simp [isDig]
theorem isLet_iff {c:UInt8}:isLet c=true↔(65<=c.toNat/\c.toNat<=90)\/(97<=c.toNat/\c.toNat<=122)\/c.toNat=95:=by simp [isLet,or_assoc]
theorem bits_all:∀ n:Fin 256,(97<=bits BinOp.or IntKind.u8 ((n.val:Nat):Int) 32/\bits BinOp.or IntKind.u8 ((n.val:Nat):Int) 32<=122)↔((65<=n.val/\n.val<=90)\/(97<=n.val/\n.val<=122)):=by
 decide +kernel
theorem bits_or (c:UInt8):(97<=bits BinOp.or IntKind.u8 (c.toNat:Int) 32/\bits BinOp.or IntKind.u8 (c.toNat:Int) 32<=122)↔((65<=c.toNat/\c.toNat<=90)\/(97<=c.toNat/\c.toNat<=122)) :=
 bits_all ⟨c.toNat,c.toNat_lt⟩
theorem size_eq (s:ByteArray):s.data.toList.length=s.size:=Array.length_toList
theorem toList_eq' (s:ByteArray):s.toList=s.data.toList:=ByteArray.toList_eq ..
theorem ba_ext {p q:ByteArray} (h:p.data.toList=q.data.toList):p=q:=ByteArray.ext (Array.ext' h)
theorem ext_beg (s:ByteArray) (n:Nat):(s.extract 0 n).data.toList=s.data.toList.take n:=by
 rw [Lib.extract_data,List.drop_zero];rfl
theorem app_data (a b:ByteArray):(a ++ b).data.toList=a.data.toList ++ b.data.toList:=by
 rw [ByteArray.data_append,Array.toList_append]
theorem get_drop {s:ByteArray} {k:Nat} (h:k<s.size):s.data.toList.drop k=s[k] :: s.data.toList.drop (k+1) :=
 List.drop_eq_getElem_cons (l:=s.data.toList) (i:=k) (by rw [size_eq];exact h)
def run (p:UInt8->Bool) (l:List UInt8):Nat:=(l.takeWhile p).length
theorem run_yes {p:UInt8->Bool} {c:UInt8} {t:List UInt8} (h:p c=true):run p (c :: t)=run p t+1:=by
 unfold run;rw [List.takeWhile_cons,if_pos h];rfl
theorem run_no {p:UInt8->Bool} {c:UInt8} {t:List UInt8} (h:p c=false):run p (c :: t)=0:=by
 unfold run;rw [List.takeWhile_cons,if_neg (by simp [h])];rfl
theorem run_le (p:UInt8->Bool):∀ l,run p l<=l.length
 | []=>Nat.le_refl _
 | c :: t=>by
   cases h:p c with
   | true=>rw [run_yes h];have:=run_le p t;simp;omega
   | false=>rw [run_no h];exact Nat.zero_le _
def blk:Bool->List UInt8->Nat
 | _,[]=>0
 | true,c :: t=>if c.toNat=10 then 1+blk false t else 1+blk true t
 | false,c :: t=>if isBl c then 1+blk false t else if c.toNat=45/\t.head? = some 45 then 1+blk true t else 0
def rem (l:List UInt8):Bool:=[45,45].isPrefixOf l
theorem rem_nil:rem []=false:=rfl
theorem rem_one (c:UInt8):rem [c]=false:=by simp [rem,List.isPrefixOf]
theorem rem_two (c d:UInt8) (t:List UInt8):rem (c :: d :: t)=(c == 45 && d == 45):=by
 simp [rem,List.isPrefixOf,Bool.beq_comm]
theorem rem_iff {l:List UInt8}:rem l=true↔∃ t,l=45 :: 45 :: t:=by
 cases l with
 | nil=>simp [rem_nil]
 | cons c t =>
  cases t with
  | nil=>simp [rem_one]
  | cons d t=>rw [rem_two];simp
def wordL:List (List UInt8):=[[97,110,100],[100,105,118],[101,108,115,101],[101,109,105,116],[101,110,100,105,102],[102,97,108,115,101],[105,102],[105,109,112,108,105,101,115],[109,111,100],[110,111,116],[111,114],[116,104,101,110],[116,114,117,101],[120,111,114]]
def signL:List (List UInt8):=[[58,61],[60,62],[60,61],[62,61],[60],[62],[61],[43],[45],[42],[40],[41],[44],[59]]
def wordB:List UInt8:=[32,97,110,100,32,100,105,118,32,101,108,115,101,32,101,109,105,116,32,101,110,100,105,102,32,102,97,108,115,101,32,105,102,32,105,109,112,108,105,101,115,32,109,111,100,32,110,111,116,32,111,114,32,116,104,101,110,32,116,114,117,101,32,120,111,114,32]
theorem word_at:∀ i:Fin 68,(wordB.drop i.val).head? = some 32->((wordB.drop i.val).drop 1).takeWhile (fun c=>!(c == 32))=[]\/((wordB.drop i.val).drop 1).takeWhile (fun c=>!(c == 32)) ∈ wordL:=by decide +kernel
theorem word_in:∀ w ∈ wordL,Lib.contains wordB (32 :: w ++ [32])=true:=by decide +kernel
theorem takeWhile_app {w t:List UInt8} (h:∀ c ∈ w,c≠32):(w ++ 32 :: t).takeWhile (fun c=>!(c == 32))=w:=by
 induction w with
 | nil=>simp
 | cons a w ih =>
  have ha:=h a (List.mem_cons_self ..)
  rw [List.cons_append,List.takeWhile_cons,if_pos (by simp [ha]),ih (fun c hc=>h c (List.mem_cons_of_mem _ hc))]
theorem words_eq {w:List UInt8} (h:∀ c ∈ w,c≠32) (hne:w≠[]):Lib.contains wordB (32 :: w ++ [32])=wordL.contains w:=by
 rw [Bool.eq_iff_iff,List.contains_iff_mem]
 constructor
 . intro hc
   unfold Lib.contains at hc
   simp only [decide_eq_true_eq] at hc
   rcases Lib.index_spec wordB (32 :: w ++ [32]) with ⟨h1,_⟩ | ⟨i,h1,h2,h3,_⟩
   . omega
   . have hp:(32 :: w ++ [32]) <+: wordB.drop i:=List.isPrefixOf_iff_prefix.1 h3
     obtain ⟨t,ht⟩:=hp
     have hl:=congrArg List.length ht
     have hwl:wordB.length=67:=rfl
     rw [List.length_drop,List.length_append,List.length_append,List.length_cons] at hl
     simp only [List.length_cons,List.length_nil] at hl
     have hw:=word_at ⟨i,by omega⟩
     simp only at hw
     rw [<- ht] at hw
     have e:List.drop 1 (32 :: w ++ [32] ++ t)=w ++ 32 :: t:=by simp
     rw [e,takeWhile_app h] at hw
     rcases hw (by simp) with h4 | h4
     . exact absurd h4 hne
     . exact h4
 . intro hm
   exact word_in w hm
def sgn (l:List UInt8):Nat:=match signL.find? (fun t=>t.isPrefixOf l) with | some t=>t.length | none=>0
def first (l:List UInt8):Nat × Nat :=
 match l with
 | []=>(0,0)
 | c :: t =>
  if rem (c :: t) then (0,0)
  else if isDig c then (run isDig (c :: t),1)
  else if isLet c then (if wordL.contains ((c :: t).take (run isLD (c :: t))) then (run isLD (c :: t),3) else (run isLD (c :: t),2))
  else if sgn (c :: t)=0 then (0,0) else (sgn (c :: t),4)
theorem sgn_le (l:List UInt8):sgn l<=l.length:=by
 unfold sgn
 cases h:signL.find? (fun t=>t.isPrefixOf l) with
 | none=>simp
 | some t =>
  have:=List.find?_some h
  exact (List.isPrefixOf_iff_prefix.1 this).length_le
theorem first_le (l:List UInt8):(first l).1<=l.length:=by
 unfold first
 split
 . simp
 . rename_i c t
   have h1:=run_le isDig (c :: t);have h2:=run_le isLD (c :: t);have h3:=sgn_le (c :: t)
   split
   . simp
   . split
     . exact h1
     . split
       . split <;> exact h2
       . split
         . simp
         . exact h3
def isT (l:List UInt8):Nat:=if (first l).1=l.length/\l.length<=64 then (first l).2 else 0
def whole (l:List UInt8):Nat :=
 if signL.contains l then 4 else if wordL.contains l then 3 else if l=[] then 0 else if l.all isDig then 1
 else if (match l with | []=>false | c :: _=>isLet c) && l.all isLD then 2 else 0
def lngF:Nat->Nat->Nat->List UInt8->Nat
 | 0,_,n,_=>n
 | m+1,k,n,l=>if k<3\/n=k - 1 then lngF m (k+1) (if whole (l.take k)=0 then n else k) l else n
def lng (l:List UInt8):Nat:=lngF l.length 1 0 l
theorem lngF_run {l:List UInt8} {R:Nat} (hl:R<=l.length) (h:∀ k,1<=k->k<=l.length->(whole (l.take k)=0↔R<k)) :
   ∀ m k,1<=k->k+m=l.length+1->lngF m k (min (k - 1) R) l=R:=by
 intro m
 induction m with
 | zero=>intro k h1 h2;simp only [lngF];omega
 | succ m ih =>
  intro k h1 h2
  simp only [lngF]
  by_cases hk:k<=R
  . have hw:¬ whole (l.take k)=0:=fun hh=>by have:=(h k h1 (by omega)).1 hh;omega
    rw [if_pos (.inr (by omega)),if_neg hw]
    have:=ih (k+1) (by omega) (by omega)
    rw [show min (k+1 - 1) R=k by omega] at this
    exact this
  . have hw:whole (l.take k)=0:=(h k h1 (by omega)).2 (by omega)
    by_cases hc:k<3\/min (k - 1) R=k - 1
    . rw [if_pos hc,if_pos hw]
      have:=ih (k+1) (by omega) (by omega)
      rw [show min (k+1 - 1) R=min (k - 1) R by omega] at this
      exact this
    . rw [if_neg hc];omega
theorem lng_run {l:List UInt8} {R:Nat} (hl:R<=l.length) (h:∀ k,1<=k->k<=l.length->(whole (l.take k)=0↔R<k)):lng l=R:=by
 have:=lngF_run hl h l.length 1 (Nat.le_refl _) (by omega)
 unfold lng
 simpa using this
theorem all_take {p:UInt8->Bool}:∀ (l:List UInt8) (k:Nat),k<=l.length->((l.take k).all p=true↔k<=run p l)
 | [],k,h=>by simp at h;subst h;simp [run]
 | c :: t,0,_=>by simp
 | c :: t,k+1,h=>by
   rw [List.take_succ_cons,List.all_cons,Bool.and_eq_true,all_take t k (by simpa using h)]
   cases hp:p c with
   | true=>rw [run_yes hp];simp
   | false=>rw [run_no hp];simp
theorem sign_head:∀ s ∈ signL,∀ c ∈ s.head?,isLD c=false:=by decide
theorem word_head:∀ s ∈ wordL,∀ c ∈ s.head?,isLet c=true:=by decide
theorem word_all:∀ s ∈ wordL,s.all isLD=true:=by decide
theorem sign_len:∀ s ∈ signL,s.length<=2:=by decide
theorem not_sign {c:UInt8} {t:List UInt8} (h:isLD c=true):signL.contains (c :: t)=false:=by
 rw [Bool.eq_false_iff];intro hh
 rw [List.contains_iff_mem] at hh
 have:=sign_head _ hh c (by simp)
 rw [h] at this;cases this
theorem not_word {c:UInt8} {t:List UInt8} (h:isLet c=false):wordL.contains (c :: t)=false:=by
 rw [Bool.eq_false_iff];intro hh
 rw [List.contains_iff_mem] at hh
 have:=word_head _ hh c (by simp)
 rw [h] at this;cases this
theorem dig_not_let {c:UInt8} (h:isDig c=true):isLet c=false:=by
 rw [isDig_iff] at h
 rw [Bool.eq_false_iff];intro hh;rw [isLet_iff] at hh;omega
theorem whole_dig {c:UInt8} (h:isDig c=true) (t:List UInt8):whole (c :: t)=if (c :: t).all isDig then 1 else 0:=by
 unfold whole
 rw [not_sign (by unfold isLD;rw [h];simp),not_word (dig_not_let h)]
 simp only [dig_not_let h]
 simp
theorem whole_let {c:UInt8} (h:isLet c=true) (t:List UInt8):whole (c :: t)=if (c :: t).all isLD then (if wordL.contains (c :: t) then 3 else 2) else 0:=by
 unfold whole
 have hd:isDig c=false:=by cases hd:isDig c with
   | false=>rfl
   | true=>rw [dig_not_let hd] at h;cases h
 rw [not_sign (by unfold isLD;rw [h];rfl)]
 by_cases hw:wordL.contains (c :: t)=true
 . rw [hw]
   have:=word_all _ (List.contains_iff_mem.1 hw)
   simp [this]
 . rw [Bool.not_eq_true] at hw
   rw [hw]
   have ha:(c :: t).all isDig=false:=by rw [List.all_cons,hd];rfl
   rw [ha]
   simp only [h]
   simp
theorem whole_other {c:UInt8} (h:isLD c=false) (t:List UInt8):whole (c :: t)=if signL.contains (c :: t) then 4 else 0:=by
 unfold isLD at h
 rw [Bool.or_eq_false_iff] at h
 unfold whole
 rw [not_word h.1]
 have ha:(c :: t).all isDig=false:=by rw [List.all_cons,h.2];rfl
 rw [ha]
 simp only [h.1]
 simp
theorem sgn_one (c:UInt8):sgn [c]=if signL.contains [c] then 1 else 0:=by
 have:∀ n:Fin 256,sgn [UInt8.ofNat n.val]=if signL.contains [UInt8.ofNat n.val] then 1 else 0:=by decide +kernel
 have:=this ⟨c.toNat,c.toNat_lt⟩
 simpa using this
theorem isPrefixOf_two (a b c d:UInt8) (t:List UInt8):[a,b].isPrefixOf (c :: d :: t)=[a,b].isPrefixOf [c,d]:=by simp [List.isPrefixOf]
theorem isPrefixOf_one (a c d:UInt8) (t:List UInt8):[a].isPrefixOf (c :: d :: t)=[a].isPrefixOf [c,d]:=by simp [List.isPrefixOf]
theorem sgn_cut (c d:UInt8) (t:List UInt8):sgn (c :: d :: t)=sgn [c,d]:=by
 unfold sgn
 have:(fun s:List UInt8=>s.isPrefixOf (c :: d :: t))=fun s=>s.isPrefixOf (c :: d :: t):=rfl
 have h:∀ s ∈ signL,s.isPrefixOf (c :: d :: t)=s.isPrefixOf [c,d]:=by
   intro s hs
   have hl:=sign_len s hs
   match s,hl with
   | [],_=>rfl
   | [a],_=>exact isPrefixOf_one ..
   | [a,b],_=>exact isPrefixOf_two ..
 have e:∀ (L:List (List UInt8)),(∀ s ∈ L,s.isPrefixOf (c :: d :: t)=s.isPrefixOf [c,d])->L.find? (fun s=>s.isPrefixOf (c :: d :: t))=L.find? (fun s=>s.isPrefixOf [c,d]):=by
   intro L
   induction L with
   | nil=>intro _;rfl
   | cons a L ih =>
    intro hL
    rw [List.find?_cons,List.find?_cons,hL a (List.mem_cons_self ..),ih (fun s hs=>hL s (List.mem_cons_of_mem _ hs))]
 rw [e signL h]
theorem two_61:∀ c:Fin 256,sgn [UInt8.ofNat c.val,61]=if signL.contains [UInt8.ofNat c.val,61] then 2 else if signL.contains [UInt8.ofNat c.val] then 1 else 0:=by decide +kernel
theorem two_62:∀ c:Fin 256,sgn [UInt8.ofNat c.val,62]=if signL.contains [UInt8.ofNat c.val,62] then 2 else if signL.contains [UInt8.ofNat c.val] then 1 else 0:=by decide +kernel
theorem find_congr {α:Type} {p q:α->Bool}:∀ (L:List α),(∀ s ∈ L,p s=q s)->L.find? p=L.find? q
 | [],_=>rfl
 | a :: L,h=>by rw [List.find?_cons,List.find?_cons,h a (List.mem_cons_self ..),find_congr L (fun s hs=>h s (List.mem_cons_of_mem _ hs))]
theorem sgn_two (c d:UInt8) (t:List UInt8):sgn (c :: d :: t)=if signL.contains [c,d] then 2 else if signL.contains [c] then 1 else 0:=by
 rw [sgn_cut]
 by_cases h1:d=61
 . subst h1;simpa using two_61 ⟨c.toNat,c.toNat_lt⟩
 by_cases h2:d=62
 . subst h2;simpa using two_62 ⟨c.toNat,c.toNat_lt⟩
 have e1:signL.contains [c,d]=false:=by
   rw [Bool.eq_false_iff];intro hh
   rw [List.contains_iff_mem] at hh
   simp [signL] at hh
   rcases hh with hh | hh | hh | hh
   . exact h1 hh.2
   . exact h2 hh.2
   . exact h1 hh.2
   . exact h1 hh.2
 have e2:sgn [c,d]=sgn [c]:=by
   unfold sgn
   rw [find_congr (q:=fun s=>s.isPrefixOf [c]) signL (fun s hs=>?_)]
   simp only [signL,List.mem_cons,List.not_mem_nil,or_false] at hs
   rcases hs with rfl | rfl | rfl | rfl | rfl | rfl | rfl | rfl | rfl | rfl | rfl | rfl | rfl | rfl <;> simp [List.isPrefixOf,Ne.symm h1,Ne.symm h2]
 rw [e2,e1,sgn_one];rfl
theorem not_sign3 (c d e:UInt8) (t:List UInt8):signL.contains (c :: d :: e :: t)=false:=by
 rw [Bool.eq_false_iff];intro hh
 have:=sign_len _ (List.contains_iff_mem.1 hh)
 simp at this
theorem lng_first {c:UInt8} {t:List UInt8} (hr:rem (c :: t)=false):lng (c :: t)=(first (c :: t)).1/\(lng (c :: t)≠0->whole ((c :: t).take (lng (c :: t)))=(first (c :: t)).2):=by
 cases hd:isDig c with
 | true =>
  have hf:first (c :: t)=(run isDig (c :: t),1):=by simp only [first,hr,hd,if_true];rfl
  have hR:=run_le isDig (c :: t)
  have hp:1<=run isDig (c :: t):=by rw [run_yes hd];omega
  have hw:∀ k,1<=k->k<=(c :: t).length->whole ((c :: t).take k)=if k<=run isDig (c :: t) then 1 else 0:=fun k h1 h2=>by
    obtain ⟨j,rfl⟩:∃ j,k=j+1:=⟨k - 1,by omega⟩
    rw [List.take_succ_cons,whole_dig hd,<- List.take_succ_cons]
    by_cases hk:j+1<=run isDig (c :: t)
    . rw [if_pos hk,if_pos ((all_take _ _ h2).2 hk)]
    . rw [if_neg hk,if_neg (fun hh=>hk ((all_take _ _ h2).1 hh))]
  have hl:lng (c :: t)=run isDig (c :: t):=lng_run hR fun k h1 h2=>by
    rw [hw k h1 h2];split <;> omega
  rw [hl,hf]
  exact ⟨rfl,fun _=>by rw [hw _ hp hR,if_pos (Nat.le_refl _)]⟩
 | false =>
  cases hlt:isLet c with
  | true =>
   have hLD:isLD c=true:=by unfold isLD;rw [hlt];rfl
   have hf:first (c :: t)=if wordL.contains ((c :: t).take (run isLD (c :: t))) then (run isLD (c :: t),3) else (run isLD (c :: t),2):=by
     simp only [first,hr,hd,hlt,if_true];rfl
   have hR:=run_le isLD (c :: t)
   have hp:1<=run isLD (c :: t):=by rw [run_yes hLD];omega
   have hw:∀ k,1<=k->k<=(c :: t).length->whole ((c :: t).take k)=if k<=run isLD (c :: t) then (if wordL.contains ((c :: t).take k) then 3 else 2) else 0:=fun k h1 h2=>by
     obtain ⟨j,rfl⟩:∃ j,k=j+1:=⟨k - 1,by omega⟩
     rw [List.take_succ_cons,whole_let hlt,<- List.take_succ_cons]
     by_cases hk:j+1<=run isLD (c :: t)
     . rw [if_pos hk,if_pos ((all_take _ _ h2).2 hk)]
     . rw [if_neg hk,if_neg (fun hh=>hk ((all_take _ _ h2).1 hh))]
   have hl:lng (c :: t)=run isLD (c :: t):=lng_run hR fun k h1 h2=>by
     rw [hw k h1 h2];split
     . split <;> omega
     . omega
   rw [hl,hf]
   refine ⟨by split <;> rfl,fun _=>?_⟩
   rw [hw _ hp hR,if_pos (Nat.le_refl _)]
   split <;> rfl
  | false =>
   have hLD:isLD c=false:=by unfold isLD;rw [hlt,hd];rfl
   have hf:first (c :: t)=if sgn (c :: t)=0 then (0,0) else (sgn (c :: t),4):=by
     simp only [first,hr,hd,hlt];rfl
   have hl:lng (c :: t)=sgn (c :: t)/\(sgn (c :: t)≠0->whole ((c :: t).take (sgn (c :: t)))=4):=by
     match t with
     | [] =>
      rw [sgn_one]
      unfold lng
      simp only [List.length_cons,List.length_nil,lngF,List.take_succ_cons,List.take_zero]
      simp only [whole_other hLD]
      by_cases h1:signL.contains [c]=true
      . simp only [h1];simp [whole_other hLD];simpa using h1
      . rw [Bool.not_eq_true] at h1
        simp only [h1];simp
     | d :: u =>
      have h0:∀ e,lngF u.length 3 e (c :: d :: u)=e:=by
        intro e
        cases u with
        | nil=>rfl
        | cons f u =>
         simp only [List.length_cons,lngF,List.take_succ_cons,List.take_zero]
         simp only [whole_other hLD,not_sign3]
         simp
         intro he
         cases u with
         | nil=>rfl
         | cons g u=>simp [lngF,he]
      rw [sgn_two]
      unfold lng
      simp only [List.length_cons,lngF,List.take_succ_cons,List.take_zero]
      rw [h0]
      simp only [whole_other hLD]
      by_cases h2:signL.contains [c,d]=true
      . simp only [h2];simp [whole_other hLD];simpa using h2
      . rw [Bool.not_eq_true] at h2
        by_cases h1:signL.contains [c]=true
        . simp only [h1,h2];simp [whole_other hLD];simpa using h1
        . rw [Bool.not_eq_true] at h1
          simp only [h1,h2];simp
   rw [hl.1,hf]
   by_cases h0:sgn (c :: t)=0
   . rw [if_pos h0];exact ⟨h0,fun h=>absurd h0 h⟩
   . rw [if_neg h0];exact ⟨rfl,fun h=>hl.2 h⟩
theorem isT_whole (l:List UInt8):isT l=if 64<l.length then 0 else whole l:=by
 unfold isT
 by_cases h64:64<l.length
 . rw [if_pos h64,if_neg (by omega)]
 . rw [if_neg h64]
   cases l with
   | nil=>rfl
   | cons c t =>
    cases hr:rem (c :: t) with
    | true =>
     obtain ⟨u,hu⟩:=rem_iff.1 hr
     have hf:(first (c :: t)).1=0:=by simp [first,hr]
     rw [hf,if_neg (by simp),hu]
     rw [whole_other (by decide)]
     cases u with
     | nil=>decide
     | cons e u=>rw [not_sign3];rfl
    | false =>
     obtain ⟨h1,h2⟩:=lng_first hr
     by_cases hn:(first (c :: t)).1=(c :: t).length
     . rw [if_pos ⟨hn,by omega⟩]
       rw [h1] at h2
       have:=h2 (by rw [hn];simp)
       rw [hn,List.take_of_length_le (Nat.le_refl _)] at this
       exact this.symm
     . rw [if_neg (fun h=>hn h.1)]
       have hlt:(first (c :: t)).1<(c :: t).length:=by have:=first_le (c :: t);omega
       cases hd:isDig c with
       | true =>
        have hf:(first (c :: t)).1=run isDig (c :: t):=by simp only [first,hr,hd,if_true];rfl
        rw [whole_dig hd,if_neg]
        intro ha
        have:=(all_take (p:=isDig) (c :: t) _ (Nat.le_refl _)).1 (by rw [List.take_of_length_le (Nat.le_refl _)];exact ha)
        omega
       | false =>
        cases hl:isLet c with
        | true =>
         have hf:(first (c :: t)).1=run isLD (c :: t):=by simp only [first,hr,hd,hl,if_true];simp;split <;> rfl
         rw [whole_let hl,if_neg]
         intro ha
         have:=(all_take (p:=isLD) (c :: t) _ (Nat.le_refl _)).1 (by rw [List.take_of_length_le (Nat.le_refl _)];exact ha)
         omega
        | false =>
         have hLD:isLD c=false:=by unfold isLD;rw [hl,hd];rfl
         have hf:(first (c :: t)).1=sgn (c :: t):=by simp only [first,hr,hd,hl];simp;split <;> simp_all
         rw [whole_other hLD,if_neg]
         intro hc
         rw [hf] at hlt
         match t with
         | []=>rw [sgn_one,if_pos hc] at hlt;simp at hlt
         | [d]=>rw [sgn_two,if_pos hc] at hlt;simp at hlt
         | d :: e :: u=>rw [not_sign3] at hc;cases hc
end Go.Lx
