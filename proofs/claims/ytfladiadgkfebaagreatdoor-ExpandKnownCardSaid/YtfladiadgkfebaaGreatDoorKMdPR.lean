/- Models as plain data; when two are the same; which may be. -/
import Derived.Test.YtfladiadgkfebaaGreatDoorKLexPP
namespace Go.Md
open Go.RowKit Go.Lx
structure VarD where
 nm:ByteArray
 ini:Int
structure RegD where
 nm:ByteArray
 own:Int
structure VerD where
 nm:ByteArray
 kd:Nat
 rg:Int
 ofv:Int
 en:ByteArray
 ex:ByteArray
 df:List ByteArray
 sb:ByteArray
structure TrnD where
 nm:ByteArray
 src:Int
 tgt:Int
 tr:List ByteArray
 af:Int
 gd:ByteArray
 ef:ByteArray
 kd:Nat
structure MdlD where
 nm:ByteArray
 vars:List VarD
 evs:List ByteArray
 regs:List RegD
 vers:List VerD
 trns:List TrnD
def eqS (a b:ByteArray):Bool:=a.toList == b.toList
theorem eqS_iff {a b:ByteArray}:eqS a b=true↔a=b:=by
 unfold eqS
 rw [beq_iff_eq,toList_eq',toList_eq']
 exact ⟨ba_ext,fun h=>by rw [h]⟩
theorem eqS_refl (a:ByteArray):eqS a a=true:=eqS_iff.2 rfl
theorem eqS_comm (a b:ByteArray):eqS a b=eqS b a:=by
 rw [Bool.eq_iff_iff,eqS_iff,eqS_iff];exact ⟨Eq.symm,Eq.symm⟩
def eqL {α:Type} (f:α->α->Bool):List α->List α->Bool
 | [],[]=>true
 | a :: s,b :: t=>f a b && eqL f s t
 | _,_=>false
theorem eqL_len {α:Type} {f:α->α->Bool}:∀ {s t:List α},eqL f s t=true->s.length=t.length
 | [],[],_=>rfl
 | a :: s,b :: t,h=>by
   simp only [eqL,Bool.and_eq_true] at h
   simp [eqL_len h.2]
 | [],_ :: _,h=>by simp [eqL] at h
 | _ :: _,[],h=>by simp [eqL] at h
theorem eqL_refl {α:Type} {f:α->α->Bool} (hf:∀ a,f a a=true):∀ s,eqL f s s=true
 | []=>rfl
 | a :: s=>by simp only [eqL,hf,eqL_refl hf s];rfl
theorem eqL_drop {α:Type} {f:α->α->Bool} {s t:List α} {k:Nat} (h1:k<s.length) (h2:k<t.length):eqL f (s.drop k) (t.drop k)=(f s[k] t[k] && eqL f (s.drop (k+1)) (t.drop (k+1))):=by
 rw [List.drop_eq_getElem_cons h1,List.drop_eq_getElem_cons h2];rfl
def eqVar (a b:VarD):Bool:=eqS a.nm b.nm && a.ini == b.ini
def eqReg (a b:RegD):Bool:=eqS a.nm b.nm && a.own == b.own
def eqVer (a b:VerD):Bool:=eqL eqS a.df b.df && (eqS a.nm b.nm && a.kd == b.kd && a.rg == b.rg && a.ofv == b.ofv && eqS a.en b.en && eqS a.ex b.ex && eqS a.sb b.sb)
def eqTrn (a b:TrnD):Bool:=eqS a.nm b.nm && a.src == b.src && a.tgt == b.tgt && eqL eqS a.tr b.tr && a.af == b.af && eqS a.gd b.gd && eqS a.ef b.ef && a.kd == b.kd
def sameM (a b:MdlD):Bool:=eqS a.nm b.nm && eqL eqVar a.vars b.vars && eqL eqS a.evs b.evs && eqL eqReg a.regs b.regs && eqL eqVer a.vers b.vers && eqL eqTrn a.trns b.trns
theorem eqVar_refl (a:VarD):eqVar a a=true:=by simp [eqVar,eqS_refl]
theorem eqReg_refl (a:RegD):eqReg a a=true:=by simp [eqReg,eqS_refl]
theorem eqVer_refl (a:VerD):eqVer a a=true:=by simp [eqVer,eqS_refl,eqL_refl eqS_refl]
theorem eqTrn_refl (a:TrnD):eqTrn a a=true:=by simp [eqTrn,eqS_refl,eqL_refl eqS_refl]
theorem sameM_refl (a:MdlD):sameM a a=true:=by
 simp [sameM,eqS_refl,eqL_refl eqVar_refl,eqL_refl eqS_refl,eqL_refl eqReg_refl,eqL_refl eqVer_refl,eqL_refl eqTrn_refl]
def isNm (s:ByteArray):Bool:=isT s.data.toList == 2
def nmd (s:ByteArray):Bool:=s.size == 0 || isNm s
def inL (l:List ByteArray) (s:ByteArray):Bool:=l.any (eqS s)
def evsG (ev:List ByteArray):List ByteArray->List ByteArray->Bool
 | _,[]=>true
 | pre,s :: t=>inL ev s && !inL pre s && evsG ev (pre ++ [s]) t
theorem evsG_drop {ev l:List ByteArray} {k:Nat} (h:k<l.length) :
   evsG ev (l.take k) (l.drop k)=(inL ev l[k] && !inL (l.take k) l[k] && evsG ev (l.take (k+1)) (l.drop (k+1))):=by
 rw [List.drop_eq_getElem_cons h,evsG,List.take_succ_eq_append_getElem h]
abbrev Flt:=Nat × Nat × Nat
def wrL {α:Type} (part most:Nat) (r:Nat->α->Bool):Nat->List α->Flt
 | _,[]=>(0,0,0)
 | i,x :: t=>if i=most then (part,most,3) else if r i x then wrL part most r (i+1) t else (part,i,130)
theorem wrL_drop {α:Type} {part most:Nat} {r:Nat->α->Bool} {l:List α} {k:Nat} (h:k<l.length) :
   wrL part most r k (l.drop k)=if k=most then (part,most,3) else if r k l[k] then wrL part most r (k+1) (l.drop (k+1)) else (part,k,130):=by
 rw [List.drop_eq_getElem_cons h,wrL]
theorem wrL_zero {α:Type} {part most:Nat} (hp:part≠0) {r:Nat->α->Bool}:∀ {l:List α} {i:Nat},wrL part most r i l=(0,0,0)↔(∀ k (h:k<l.length),r (i+k) l[k]=true/\i+k≠most)
 | [],i=>by simp [wrL]
 | x :: t,i=>by
   unfold wrL
   constructor
   . intro h
     by_cases h1:i=most
     . rw [if_pos h1] at h;simp only [Prod.mk.injEq] at h;omega
     . rw [if_neg h1] at h
       cases hr:r i x with
       | false=>rw [hr] at h;simp only [Bool.false_eq_true,if_false,Prod.mk.injEq] at h;omega
       | true =>
        rw [hr,if_pos rfl] at h
        intro k hk
        cases k with
        | zero=>exact ⟨hr,h1⟩
        | succ k =>
         have:=(wrL_zero hp).1 h k (by simpa using hk)
         rw [show i+1+k=i+(k+1) by omega] at this
         exact this
   . intro h
     have h0:=h 0 (by simp)
     simp only [Nat.add_zero,List.getElem_cons_zero] at h0
     rw [if_neg h0.2,if_pos h0.1]
     refine (wrL_zero hp).2 fun k hk=>?_
     have:=h (k+1) (by simpa using hk)
     rw [show i+(k+1)=i+1+k by omega] at this
     exact this
theorem wrL_is {α:Type} {part most:Nat} {r:Nat->α->Bool}:∀ {l:List α} {i:Nat},wrL part most r i l=(0,0,0)\/((wrL part most r i l).1=part/\((wrL part most r i l).2.2=3\/(wrL part most r i l).2.2=130)/\(wrL part most r i l).2.1<=i+l.length)
 | [],i=>.inl rfl
 | x :: t,i=>by
   unfold wrL
   by_cases h1:i=most
   . rw [if_pos h1];exact .inr ⟨rfl,.inl rfl,by simp;omega⟩
   . rw [if_neg h1]
     cases hr:r i x with
     | false=>exact .inr ⟨rfl,.inr rfl,by simp⟩
     | true =>
      rw [if_pos rfl]
      rcases wrL_is (part:=part) (most:=most) (r:=r) (l:=t) (i:=i+1) with h | ⟨h,h2,h3⟩
      . exact .inl h
      . exact .inr ⟨h,h2,by simp only [List.length_cons];omega⟩
def argS:ByteArray:=⟨#[97,114,103]⟩
def rVar (m:MdlD) (i:Nat) (x:VarD):Bool:=isNm x.nm && !eqS x.nm argS && !((m.vars.take i).any fun y=>eqS y.nm x.nm)
def rEv (m:MdlD) (i:Nat) (s:ByteArray):Bool:=isNm s && !inL (m.evs.take i) s
def stM (m:MdlD) (v:Int):Bool:=decide (0<=v) && (match m.vers[v.toNat]? with | some x=>x.kd == 1 | none=>false)
def noSub (m:MdlD) (v:Int):Bool:=match m.vers[v.toNat]? with | some x=>x.sb.size == 0 | none=>true
def rReg (m:MdlD) (i:Nat) (x:RegD):Bool:=if i=0 then nmd x.nm && x.own == -1 else nmd x.nm && stM m x.own && noSub m x.own
def liesM (m:MdlD) (x:VerD):Bool:=if x.kd=10\/x.kd=11 then x.rg == -1 && stM m x.ofv else x.ofv == -1 && decide (0<=x.rg) && decide (x.rg<m.regs.length)
def bare (x:VerD):Bool:=x.en.size == 0 && x.ex.size == 0 && x.df.length == 0 && x.sb.size == 0
def rVer (m:MdlD) (x:VerD):Bool :=
 nmd x.nm && decide (1<=x.kd) && decide (x.kd<=12) && liesM m x && (bare x || x.kd == 1) && nmd x.sb && decide (x.en.size<=4096) && decide (x.ex.size<=4096) && evsG m.evs [] x.df
def arM (m:MdlD) (v:Int):Int:=match m.vers[v.toNat]? with
 | some x=>if 0<=x.ofv then x.ofv else match m.regs[x.rg.toNat]? with | some r=>r.own | none=>-1
 | none=>-1
def dpM (m:MdlD):Nat->Int->Nat
 | 0,_=>0
 | f+1,v=>if v<0 then 0 else dpM m f (arM m v)+1
def deM (m:MdlD) (v:Int):Nat:=dpM m 65 (arM m v)
def rDeep (m:MdlD) (i:Nat):Bool:=decide (deM m i<=64)
def rWay (m:MdlD) (x:TrnD):Bool :=
 nmd x.nm && (decide (0<=x.src) && decide (x.src<m.vers.length)) && (decide (0<=x.tgt) && decide (x.tgt<m.vers.length)) && evsG m.evs [] x.tr && decide (0<=x.af) && decide (x.af<=65535) && (x.af == 0 || x.tr.length == 0) &&
   decide (1<=x.kd) && decide (x.kd<=3) && decide (x.gd.size<=4096) && decide (x.ef.size<=4096)
def f1 (m:MdlD):Flt:=if isNm m.nm then (0,0,0) else (1,0,130)
def f2 (m:MdlD):Flt:=wrL 2 64 (rVar m) 0 m.vars
def f3 (m:MdlD):Flt:=wrL 3 64 (rEv m) 0 m.evs
def f4 (m:MdlD):Flt:=if m.regs.length=0 then (4,0,130) else wrL 4 512 (rReg m) 0 m.regs
def f5 (m:MdlD):Flt:=wrL 5 512 (fun _=>rVer m) 0 m.vers
def f6 (m:MdlD):Flt:=wrL 5 512 (fun i _=>rDeep m i) 0 m.vers
def f7 (m:MdlD):Flt:=wrL 6 512 (fun _=>rWay m) 0 m.trns
def fst2 (a b:Flt):Flt:=if a.1=0 then b else a
def riM (m:MdlD):Flt:=fst2 (f1 m) (fst2 (f2 m) (fst2 (f3 m) (fst2 (f4 m) (fst2 (f5 m) (fst2 (f6 m) (f7 m))))))
theorem f1_is (m:MdlD):f1 m=(0,0,0)\/((f1 m).1≠0/\(f1 m).2.2=130):=by
 unfold f1;cases isNm m.nm <;> simp
theorem wrL_is' {α:Type} {part most:Nat} (hp:part≠0) {r:Nat->α->Bool} {l:List α} {i:Nat}:wrL part most r i l=(0,0,0)\/((wrL part most r i l).1≠0/\((wrL part most r i l).2.2=3\/(wrL part most r i l).2.2=130)):=by
 rcases wrL_is (part:=part) (most:=most) (r:=r) (l:=l) (i:=i) with h | ⟨h,h2,_⟩
 . exact .inl h
 . exact .inr ⟨by rw [h];exact hp,h2⟩
def Fine (f:Flt):Prop:=f=(0,0,0)\/(f.1≠0/\(f.2.2=3\/f.2.2=130))
theorem f1_fine (m:MdlD):Fine (f1 m):=(f1_is m).imp id fun h=>⟨h.1,.inr h.2⟩
theorem fst2_fine {a b:Flt} (ha:Fine a) (hb:Fine b):Fine (fst2 a b):=by
 unfold fst2
 rcases ha with h | h
 . rw [h,if_pos rfl];exact hb
 . rw [if_neg h.1];exact .inr h
theorem f4_fine (m:MdlD):Fine (f4 m):=by
 unfold f4
 by_cases h:m.regs.length=0
 . rw [if_pos h];exact .inr ⟨by decide,.inr rfl⟩
 . rw [if_neg h];exact wrL_is' (by decide)
theorem riM_fine (m:MdlD):Fine (riM m) :=
 fst2_fine (f1_fine m) <| fst2_fine (wrL_is' (by decide)) <| fst2_fine (wrL_is' (by decide)) <| fst2_fine (f4_fine m) <| fst2_fine (wrL_is' (by decide)) <| fst2_fine (wrL_is' (by decide)) (wrL_is' (by decide))
theorem fst2_zero {a b:Flt} (ha:Fine a):fst2 a b=(0,0,0)↔a=(0,0,0)/\b=(0,0,0):=by
 unfold fst2
 rcases ha with h | h
 . rw [h,if_pos rfl];exact ⟨fun h=>⟨rfl,h⟩,fun h=>h.2⟩
 . rw [if_neg h.1];exact ⟨fun h2=>absurd (by rw [h2]) h.1,fun h2=>h2.1⟩
theorem riM_zero {m:MdlD}:riM m=(0,0,0)↔f1 m=(0,0,0)/\f2 m=(0,0,0)/\f3 m=(0,0,0)/\f4 m=(0,0,0)/\f5 m=(0,0,0)/\f6 m=(0,0,0)/\f7 m=(0,0,0):=by
 unfold riM
 rw [fst2_zero (f1_fine m),fst2_zero (a:=f2 m) (wrL_is' (by decide)),fst2_zero (a:=f3 m) (wrL_is' (by decide)),fst2_zero (f4_fine m),fst2_zero (a:=f5 m) (wrL_is' (by decide)),fst2_zero (a:=f6 m) (wrL_is' (by decide))]
theorem riM_ok {m:MdlD} (h:(riM m).2.2=0):riM m=(0,0,0):=by
 rcases riM_fine m with h1 | ⟨_,h2 | h2⟩
 . exact h1
 . omega
 . omega
structure UpOk (m:MdlD):Prop where
 rg:∀ (x:VerD),x ∈ m.vers->(0<=x.ofv/\x.ofv<m.vers.length)\/(x.ofv<0/\0<=x.rg/\x.rg<m.regs.length)
 own:∀ (x:RegD),x ∈ m.regs->x.own<m.vers.length
theorem stM_lt {m:MdlD} {v:Int} (h:stM m v=true):0<=v/\v<m.vers.length:=by
 unfold stM at h
 rw [Bool.and_eq_true,decide_eq_true_iff] at h
 refine ⟨h.1,?_⟩
 have h2:=h.2
 cases hx:m.vers[v.toNat]? with
 | none=>rw [hx] at h2;exact absurd h2 (by decide)
 | some x=>obtain ⟨hlt,_⟩:=List.getElem?_eq_some_iff.1 hx;omega
theorem upOk {m:MdlD} (h4:f4 m=(0,0,0)) (h5:f5 m=(0,0,0)):UpOk m:=by
 constructor
 . intro x hx
   obtain ⟨k,hk,rfl⟩:=List.getElem_of_mem hx
   have:=((wrL_zero (part:=5) (by decide)).1 h5 k hk).1
   unfold rVer at this
   simp only [Bool.and_eq_true] at this
   have hl:=this.1.1.1.1.1.2
   unfold liesM at hl
   split at hl
   . rw [Bool.and_eq_true] at hl
     exact .inl (stM_lt hl.2)
   . simp only [Bool.and_eq_true,decide_eq_true_iff,beq_iff_eq] at hl
     exact .inr ⟨by omega,hl.1.2,hl.2⟩
 . intro x hx
   obtain ⟨k,hk,rfl⟩:=List.getElem_of_mem hx
   unfold f4 at h4
   by_cases h0:m.regs.length=0
   . omega
   . rw [if_neg h0] at h4
     have:=((wrL_zero (part:=4) (by decide)).1 h4 k hk).1
     unfold rReg at this
     split at this
     . simp only [Bool.and_eq_true,beq_iff_eq] at this;omega
     . simp only [Bool.and_eq_true] at this;exact (stM_lt this.1.2).2
theorem arM_lt {m:MdlD} (h:UpOk m) (v:Int):arM m v<m.vers.length:=by
 unfold arM
 cases hx:m.vers[v.toNat]? with
 | none=>show (-1:Int)<_;omega
 | some x =>
  have hm:x ∈ m.vers:=List.mem_of_getElem? hx
  show (if 0<=x.ofv then x.ofv else match m.regs[x.rg.toNat]? with | some r=>r.own | none=>-1)<_
  by_cases h0:0<=x.ofv
  . rw [if_pos h0]
    rcases h.rg x hm with h1 | h1 <;> omega
  . rw [if_neg h0]
    cases hr:m.regs[x.rg.toNat]? with
    | none=>show (-1:Int)<_;omega
    | some r=>exact h.own r (List.mem_of_getElem? hr)
end Go.Md
