/- The chapter's examples of submachines: plain. -/
import Derived.Test.YtfladiadgkfebaaDoorCEpST
namespace Go.Md
open Go.RowKit Go.Lx Go.Proofs
set_option linter.unusedVariables false
def vIni:VerD:=⟨⟨#[]⟩,3,0,-1,⟨#[]⟩,⟨#[]⟩,[],⟨#[]⟩⟩
def vSub (s:ByteArray):VerD:=⟨⟨#[116]⟩,1,0,-1,⟨#[]⟩,⟨#[]⟩,[⟨#[103,111]⟩],s⟩
def vPnt (p:VerD):VerD:={ p with rg:=-1,ofv:=1 }
def vEnd:VerD:=⟨⟨#[100,111,110,101]⟩,2,0,-1,⟨#[]⟩,⟨#[]⟩,[],⟨#[]⟩⟩
def tGo:TrnD:=⟨⟨#[]⟩,0,1,[⟨#[103,111]⟩],0,⟨#[]⟩,⟨#[]⟩,1⟩
def machM (nm:ByteArray) (subs:List ByteArray) (pts:List VerD):MdlD :=
 ⟨nm,[⟨⟨#[110]⟩,2⟩,⟨⟨#[118]⟩ ++ nm,0⟩],[⟨#[103,111]⟩,⟨#[101]⟩ ++ nm],[⟨⟨#[116,111,112]⟩,-1⟩],[vIni] ++ subs.map vSub ++ pts.map vPnt ++ [vEnd],[tGo]⟩
def usC (l:List MdlD) (a:Nat):List Nat:=(l.getD a D0).vers.filterMap fun x=>if 0<x.sb.size then fnd l x.sb else none
theorem usC_iff {l:List MdlD} {a b:Nat}:b ∈ usC l a↔Use l a b:=by
 unfold usC Use
 rw [List.mem_filterMap]
 constructor
 · rintro ⟨x,hx,h⟩
   split at h
   · rename_i h0
     rcases Nat.lt_or_ge a l.length with ha | ha
     · rw [List.getD_eq_getElem?_getD,List.getElem?_eq_getElem ha] at hx
       exact ⟨_,List.getElem?_eq_getElem ha,x,hx,h0,h⟩
     · rw [List.getD_eq_getElem?_getD,List.getElem?_eq_none ha] at hx
       simp at hx
   · cases h
 · rintro ⟨m,hm,x,hx,h0,h⟩
   exact ⟨x,by rw [List.getD_eq_getElem?_getD,hm];exact hx,by rw [if_pos h0];exact h⟩
def clC (l:List MdlD) (a:Nat):Nat→List Nat
 | 0=>usC l a
 | k+1=>clC l a k ++ (clC l a k).flatMap (usC l)
theorem clC_is {l:List MdlD} {a:Nat}:∀ {k b:Nat},b ∈ clC l a k→Rch l a b
 | 0,b,h=>.one (usC_iff.1 h)
 | k+1,b,h=>by
   rcases List.mem_append.1 h with h | h
   · exact clC_is h
   · obtain ⟨c,hc,hb⟩:=List.mem_flatMap.1 h
     exact (clC_is hc).trans (.one (usC_iff.1 hb))
theorem clC_us {l:List MdlD} {a b:Nat} (h:Use l a b):∀ k,b ∈ clC l a k
 | 0=>usC_iff.2 h
 | k+1=>List.mem_append_left _ (clC_us h k)
def shutB (l:List MdlD) (a:Nat):Bool:=(clC l a l.length).all fun b=>(usC l b).all fun c=>(clC l a l.length).contains c
def rC (l:List MdlD) (a b:Nat):Bool:=(clC l a l.length).contains b
def shutAll (l:List MdlD):Bool:=(List.range l.length).all (shutB l)
theorem rB_eq {l:List MdlD} (h:shutAll l=true) (a b:Nat):rB l a b=rC l a b:=by
 rw [Bool.eq_iff_iff,rB_iff]
 unfold rC
 rw [List.contains_iff_mem]
 constructor
 · intro hr
   have ha:=hr.lt.1
   have hs:=List.all_eq_true.1 h a (List.mem_range.2 ha)
   unfold shutB at hs
   refine hr.closed (S:=fun b=>b ∈ clC l a l.length) (fun b u=>clC_us u _) fun b c hb u=>?_
   have:=List.all_eq_true.1 (List.all_eq_true.1 hs b hb) c (usC_iff.2 u)
   exact List.contains_iff_mem.1 this
 · exact clC_is
def w3C (l:List MdlD) (i:Nat):Nat:=if rC l i i then 180 else 0
def wrgC (l:List MdlD):Bad :=
 orB (frsF (w1 l) l.length 0) (orB (frsF (w2 l) l.length 0) (orB (frsF (w3C l) l.length 0) (if manyS (sizF l l.length 0) then (0,3) else (0,0))))
def isUC (l:List MdlD) (i:Nat):Bool:=i == 0 || rC l 0 i
def varsC (l:List MdlD) (acc:List VarD) (i:Nat):List VarD:=if isUC l i then (l.getD i D0).vars.foldl addV acc else acc
def evsC (l:List MdlD) (acc:List ByteArray) (i:Nat):List ByteArray:=if isUC l i then (l.getD i D0).evs.foldl addE acc else acc
def madeC (l:List MdlD):MdlD:={ expF false l l.length 0 with vars:=(List.range l.length).foldl (varsC l) [],evs:=(List.range l.length).foldl (evsC l) [] }
def expC (l:List MdlD):MdlD × Bad :=
 if l.length=0 then (D0,(0,2)) else if (wrgC l).2≠0 then (D0,wrgC l) else if (riM (madeC l)).2.2≠0 then (D0,(0,(riM (madeC l)).2.2)) else (madeC l,(0,0))
theorem expM_eq {l:List MdlD} (h:shutAll l=true):expM l=expC l:=by
 have e3:w3 l=w3C l:=funext fun i=>by unfold w3 w3C;rw [rB_eq h]
 have ew:wrgM l=wrgC l:=by unfold wrgM wrgC;rw [e3]
 have eu:isU l=isUC l:=funext fun i=>by unfold isU isUC;rw [rB_eq h]
 have ev:varsS l=varsC l:=funext fun acc=>funext fun i=>by unfold varsS varsC;rw [eu]
 have ee:evsS l=evsC l:=funext fun acc=>funext fun i=>by unfold evsS evsC;rw [eu]
 have em:madeM l=madeC l:=by unfold madeM madeC allV allE;rw [ev,ee]
 unfold expM expC
 rw [ew,em]
abbrev nmM:ByteArray:=⟨#[77]⟩
abbrev nmN:ByteArray:=⟨#[78]⟩
abbrev nm0:ByteArray:=⟨#[]⟩
def pEn:VerD:=⟨⟨#[116]⟩,10,0,0,⟨#[]⟩,⟨#[]⟩,[],⟨#[]⟩⟩
def pEx:VerD:=⟨⟨#[100,111,110,101]⟩,11,0,0,⟨#[]⟩,⟨#[]⟩,[],⟨#[]⟩⟩
def exA:List MdlD:=[machM nmM [nmN] [],machM nmN [nm0] []]
def exB:List MdlD:=[machM nmM [nmN] []]
def exC:List MdlD:=[machM nmM [nm0] [],machM nmN [nmN] []]
def exD:List MdlD:=[machM nmM [nmN] [pEn,pEx],machM nmN [nm0] []]
set_option maxRecDepth 100000 in
theorem exA_is:(expM exA).2=(0,0)∧(expM exA).1.regs.length=2∧((expM exA).1.regs[1]?).map (·.own)=some 1∧(expM exA).1.vers.length=6∧((expM exA).1.vers[4]?).map (·.rg)=some 1∧(expM exA).1.trns.length=2∧((expM exA).1.trns[1]?).map (fun t=>(t.src,t.tgt))=some (3,4)∧(expM exA).1.vars.length=3∧(expM exA).1.evs.length=3:=by
 rw [expM_eq (by kernel_rfl)]
 refine ⟨?_,?_,?_,?_,?_,?_,?_,?_,?_⟩ <;> kernel_rfl
set_option maxRecDepth 100000 in
theorem exB_is:(expM exB).2=(0,180):=by
 rw [expM_eq (by kernel_rfl)]
 kernel_rfl
set_option maxRecDepth 100000 in
theorem exC_is:(expM exC).2=(1,180):=by
 rw [expM_eq (by kernel_rfl)]
 kernel_rfl
set_option maxRecDepth 100000 in
theorem exD_is:(expM exD).2=(0,0)∧(expM exD).1.vers.length=8∧(expM exD).1.trns.length=4∧((expM exD).1.trns[2]?).map (fun t=>(t.src,t.tgt))=some (2,6)∧((expM exD).1.trns[3]?).map (fun t=>(t.src,t.tgt))=some (7,3)∧((expM exD).1.vers[7]?).map (·.kd)=some 5∧((expM exD).1.vers[4]?).map (·.kd)=some 2:=by
 rw [expM_eq (by kernel_rfl)]
 refine ⟨?_,?_,?_,?_,?_,?_,?_⟩ <;> kernel_rfl
end Go.Md
