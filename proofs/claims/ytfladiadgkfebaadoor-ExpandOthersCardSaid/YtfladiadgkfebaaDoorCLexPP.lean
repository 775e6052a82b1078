/- Plain facts on tokens: what is a blank, the token at a text's beginning, all tokens. No program is in sight. -/
import Derived.WalkKit
import Derived.Lib.Hide
import Derived.Lib.Strings
import Derived.Lib.Bytealg
import Derived.Lib.IndexMore
namespace Go.Lx
open Go.RowKit

def isDig (c:UInt8):Bool:=decide (48≤c.toNat) && decide (c.toNat≤57)
def isLet (c:UInt8):Bool:=(decide (65≤c.toNat) && decide (c.toNat≤90)) || (decide (97≤c.toNat) && decide (c.toNat≤122)) || decide (c.toNat=95)
def isLD (c:UInt8):Bool:=isLet c || isDig c
def isBl (c:UInt8):Bool:=decide (c.toNat=9) || decide (c.toNat=10) || decide (c.toNat=13) || decide (c.toNat=32)
theorem isDig_iff {c:UInt8}:isDig c=true↔48≤c.toNat∧c.toNat≤57:=by simp [isDig]
theorem isLet_iff {c:UInt8}:isLet c=true↔(65≤c.toNat∧c.toNat≤90)∨(97≤c.toNat∧c.toNat≤122)∨c.toNat=95:=by simp [isLet,or_assoc]
theorem bits_all:∀ n:Fin 256,(97≤bits BinOp.or IntKind.u8 ((n.val:Nat):Int) 32∧bits BinOp.or IntKind.u8 ((n.val:Nat):Int) 32≤122)↔((65≤n.val∧n.val≤90)∨(97≤n.val∧n.val≤122)):=by
 decide +kernel
theorem bits_or (c:UInt8):(97≤bits BinOp.or IntKind.u8 (c.toNat:Int) 32∧bits BinOp.or IntKind.u8 (c.toNat:Int) 32≤122)↔((65≤c.toNat∧c.toNat≤90)∨(97≤c.toNat∧c.toNat≤122)) :=
 bits_all ⟨c.toNat,c.toNat_lt⟩

theorem size_eq (s:ByteArray):s.data.toList.length=s.size:=Array.length_toList
theorem toList_eq' (s:ByteArray):s.toList=s.data.toList:=ByteArray.toList_eq ..
theorem ba_ext {p q:ByteArray} (h:p.data.toList=q.data.toList):p=q:=ByteArray.ext (Array.ext' h)
theorem ext_beg (s:ByteArray) (n:Nat):(s.extract 0 n).data.toList=s.data.toList.take n:=by
 rw [Lib.extract_data,List.drop_zero];rfl
theorem app_data (a b:ByteArray):(a ++ b).data.toList=a.data.toList ++ b.data.toList:=by
 rw [ByteArray.data_append,Array.toList_append]
theorem get_drop {s:ByteArray} {k:Nat} (h:k<s.size):s.data.toList.drop k=s[k] :: s.data.toList.drop (k+1) :=
 List.drop_eq_getElem_cons (l:=s.data.toList) (i:=k) (by rw [size_eq];exact h)

def run (p:UInt8→Bool) (l:List UInt8):Nat:=(l.takeWhile p).length
theorem run_yes {p:UInt8→Bool} {c:UInt8} {t:List UInt8} (h:p c=true):run p (c :: t)=run p t+1:=by
 unfold run;rw [List.takeWhile_cons,if_pos h];rfl
theorem run_no {p:UInt8→Bool} {c:UInt8} {t:List UInt8} (h:p c=false):run p (c :: t)=0:=by
 unfold run;rw [List.takeWhile_cons,if_neg (by simp [h])];rfl
theorem run_le (p:UInt8→Bool):∀ l,run p l≤l.length
 | []=>Nat.le_refl _
 | c :: t=>by
   cases h:p c with
   | true=>rw [run_yes h];have:=run_le p t;simp;omega
   | false=>rw [run_no h];exact Nat.zero_le _

def blk:Bool→List UInt8→Nat
 | _,[]=>0
 | true,c :: t=>if c.toNat=10 then 1+blk false t else 1+blk true t
 | false,c :: t=>if isBl c then 1+blk false t else if c.toNat=45∧t.head? = some 45 then 1+blk true t else 0
def rem (l:List UInt8):Bool:=[45,45].isPrefixOf l
def wordL:List (List UInt8):=[[97,110,100],[100,105,118],[101,108,115,101],[101,109,105,116],[101,110,100,105,102],[102,97,108,115,101],[105,102],[105,109,112,108,105,101,115],[109,111,100],[110,111,116],[111,114],[116,104,101,110],[116,114,117,101],[120,111,114]]
def signL:List (List UInt8):=[[58,61],[60,62],[60,61],[62,61],[60],[62],[61],[43],[45],[42],[40],[41],[44],[59]]
def wordB:List UInt8:=[32,97,110,100,32,100,105,118,32,101,108,115,101,32,101,109,105,116,32,101,110,100,105,102,32,102,97,108,115,101,32,105,102,32,105,109,112,108,105,101,115,32,109,111,100,32,110,111,116,32,111,114,32,116,104,101,110,32,116,114,117,101,32,120,111,114,32]
theorem word_at:∀ i:Fin 68,(wordB.drop i.val).head? = some 32→((wordB.drop i.val).drop 1).takeWhile (fun c=>!(c == 32))=[]∨((wordB.drop i.val).drop 1).takeWhile (fun c=>!(c == 32)) ∈ wordL:=by decide +kernel
theorem word_in:∀ w ∈ wordL,Lib.contains wordB (32 :: w ++ [32])=true:=by decide +kernel
theorem takeWhile_app {w t:List UInt8} (h:∀ c ∈ w,c≠32):(w ++ 32 :: t).takeWhile (fun c=>!(c == 32))=w:=by
 induction w with
 | nil=>simp
 | cons a w ih =>
  have ha:=h a (List.mem_cons_self ..)
  rw [List.cons_append,List.takeWhile_cons,if_pos (by simp [ha]),ih (fun c hc=>h c (List.mem_cons_of_mem _ hc))]
theorem words_eq {w:List UInt8} (h:∀ c ∈ w,c≠32) (hne:w≠[]):Lib.contains wordB (32 :: w ++ [32])=wordL.contains w:=by
 rw [Bool.eq_iff_iff,List.contains_iff_mem]
 constructor
 · intro hc
   unfold Lib.contains at hc
   simp only [decide_eq_true_eq] at hc
   rcases Lib.index_spec wordB (32 :: w ++ [32]) with ⟨h1,_⟩ | ⟨i,h1,h2,h3,_⟩
   · omega
   · have hp:(32 :: w ++ [32]) <+: wordB.drop i:=List.isPrefixOf_iff_prefix.1 h3
     obtain ⟨t,ht⟩:=hp
     have hl:=congrArg List.length ht
     have hwl:wordB.length=67:=rfl
     rw [List.length_drop,List.length_append,List.length_append,List.length_cons] at hl
     simp only [List.length_cons,List.length_nil] at hl
     have hw:=word_at ⟨i,by omega⟩
     simp only at hw
     rw [← ht] at hw
     have e:List.drop 1 (32 :: w ++ [32] ++ t)=w ++ 32 :: t:=by simp
     rw [e,takeWhile_app h] at hw
     rcases hw (by simp) with h4 | h4
     · exact absurd h4 hne
     · exact h4
 · intro hm
   exact word_in w hm
def sgn (l:List UInt8):Nat:=match signL.find? (fun t=>t.isPrefixOf l) with | some t=>t.length | none=>0
def first (l:List UInt8):Nat × Nat :=
 match l with
 | []=>(0,0)
 | c :: t =>
  if rem (c :: t) then (0,0)
  else if isDig c then (run isDig (c :: t),1)
  else if isLet c then (if wordL.contains ((c :: t).take (run isLD (c :: t))) then (run isLD (c :: t),3) else (run isLD (c :: t),2))
  else if sgn (c :: t)=0 then (0,0) else (sgn (c :: t),4)
theorem sgn_le (l:List UInt8):sgn l≤l.length:=by
 unfold sgn
 cases h:signL.find? (fun t=>t.isPrefixOf l) with
 | none=>simp
 | some t =>
  have:=List.find?_some h
  exact (List.isPrefixOf_iff_prefix.1 this).length_le
theorem first_le (l:List UInt8):(first l).1≤l.length:=by
 unfold first
 split
 · simp
 · rename_i c t
   have h1:=run_le isDig (c :: t);have h2:=run_le isLD (c :: t);have h3:=sgn_le (c :: t)
   split
   · simp
   · split
     · exact h1
     · split
       · split <;> exact h2
       · split
         · simp
         · exact h3
def isT (l:List UInt8):Nat:=if (first l).1=l.length∧l.length≤64 then (first l).2 else 0

end Go.Lx


namespace Go.Lx
open Go.RowKit

end Go.Lx
