/- Walks: 'reach', 'reached' of the program's expand. -/
import Derived.Test.YtfladiadgkfebaaGreatDoorKEmCD
namespace Go.Proofs
open Go.RowKit Go.Lx Go.Md Go.Maps Go.BigFrame
open Lib(hid)
set_option maxRecDepth 100000
set_option maxHeartbeats 0
set_option linter.unusedVariables false
theorem grown_below {w w':World} {r:Option Nat} (g:Bl w w'):w.grownBy w' r:=⟨g.os,g.tape,g.output,g.size,fun b hb _=>g.block b hb⟩
structure SeenAt (GB L:Nat) (f:Nat->Bool) (w:World):Prop where
 at':∀ j,j<L->w.cell? ⟨GB,j,none⟩=some (.bool (f j))
 fr:∀ j,j<L->w.frozen? ⟨GB,j,none⟩=false
 lt:GB<w.heap.size
theorem SeenAt.below {GB L:Nat} {f:Nat->Bool} {w w':World} (h:SeenAt GB L f w) (g:Bl w w'):SeenAt GB L f w' :=
 ⟨fun j hj=>(g.cell (p:=⟨GB,j,none⟩) h.lt).trans (h.at' j hj),fun j hj=>(g.frozen (p:=⟨GB,j,none⟩) h.lt).trans (h.fr j hj),Nat.lt_of_lt_of_le h.lt g.size⟩
def updB (f:Nat->Bool) (q:Nat):Nat->Bool:=fun j=>if j=q then true else f j
theorem SeenAt.set {GB L:Nat} {f:Nat->Bool} {w:World} (h:SeenAt GB L f w) {q:Nat} (hq:q<L):SeenAt GB L (updB f q) (w.setCell ⟨GB,q,none⟩ (.bool true)):=by
 refine ⟨fun j hj=>?_,fun j hj=>by simpa using h.fr j hj,by simpa using h.lt⟩
 unfold updB
 by_cases e:j=q
 . subst e;rw [if_pos rfl];exact World.cell?_setCell_same _ _ _ (h.at' j hj)
 . rw [if_neg e];exact cell_set_ne (h.at' j hj) (Ne.symm e)
def cntF (f:Nat->Bool):Nat->Nat
 | 0=>0
 | n+1=>cntF f n+(if f n then 0 else 1)
theorem cntF_le {f g:Nat->Bool} (h:∀ j,f j=true->g j=true):∀ n,cntF g n<=cntF f n
 | 0=>Nat.le_refl _
 | n+1=>by
   have ih:=cntF_le h n
   unfold cntF
   cases hf:f n with
   | true=>rw [h n hf];simpa using ih
   | false=>cases g n <;> simp <;> omega
theorem updB_le {f:Nat->Bool} {q:Nat}:∀ j,f j=true->updB f q j=true:=fun j h=>by unfold updB;split <;> simp_all
theorem cntF_upd {f:Nat->Bool} {q:Nat} (hq:f q=false):∀ n,q<n->cntF (updB f q) n<cntF f n
 | 0,h=>absurd h (Nat.not_lt_zero _)
 | n+1,h=>by
   unfold cntF
   rcases Nat.lt_succ_iff_lt_or_eq.1 h with h | rfl
   . have ih:=cntF_upd hq n h
     rw [show updB f q n=f n by unfold updB;rw [if_neg (by omega)]]
     omega
   . have:=cntF_le (updB_le (f:=f) (q:=q)) q
     rw [show updB f q q=true by unfold updB;rw [if_pos rfl],hq]
     simp;omega
structure Rchd (l:List MdlD) (n:Nat) (f f':Nat->Bool):Prop where
 up:∀ j,f j=true->f' j=true
 in':∀ j,f' j=true->f j=true\/Rch l n j
 own:∀ b,Use l n b->f' b=true
 cl:∀ a b,f' a=true->f a=false->Use l a b->f' b=true
structure Rchk (l:List MdlD) (n k:Nat) (f f':Nat->Bool):Prop where
 up:∀ j,f j=true->f' j=true
 in':∀ j,f' j=true->f j=true\/Rch l n j
 own:∀ m,l[n]? = some m->∀ j (h:j<m.vers.length),j<k->0<m.vers[j].sb.size->∀ q,fnd l m.vers[j].sb=some q->f' q=true
 cl:∀ a b,f' a=true->f a=false->Use l a b->f' b=true
theorem Rchk.zero {l:List MdlD} {n:Nat} {f:Nat->Bool}:Rchk l n 0 f f:=⟨fun _ h=>h,fun _ h=>.inl h,fun _ _ _ _ h=>absurd h (Nat.not_lt_zero _),fun _ _ h h2=>by rw [h] at h2;cases h2⟩
theorem Rchk.skip {l:List MdlD} {n k:Nat} {f f':Nat->Bool} (h:Rchk l n k f f') (hs:∀ m,l[n]? = some m->∀ (h:k<m.vers.length),0<m.vers[k].sb.size->∀ q,fnd l m.vers[k].sb=some q->f' q=true):Rchk l n (k+1) f f' :=
 ⟨h.up,h.in',fun m hm j hj hjk=>by
   rcases Nat.lt_succ_iff_lt_or_eq.1 hjk with h1 | rfl
   . exact h.own m hm j hj h1
   . exact hs m hm hj,h.cl⟩
theorem Rchk.more {l:List MdlD} {n k q:Nat} {f f' f2:Nat->Bool} (h:Rchk l n k f f') (hu:Use l n q) (hq:f' q=false) (h2:Rchd l q (updB f' q) f2) (hs:∀ m,l[n]? = some m->∀ (h:k<m.vers.length),∀ p,fnd l m.vers[k].sb=some p->p=q):Rchk l n (k+1) f f2:=by
 have hqq:f2 q=true:=h2.up q (by unfold updB;rw [if_pos rfl])
 have hup:∀ j,f' j=true->f2 j=true:=fun j hj=>h2.up j (updB_le j hj)
 refine ⟨fun j hj=>hup j (h.up j hj),fun j hj=>?_,fun m hm j hj hjk hz p hp=>?_,fun a b ha hfa hab=>?_⟩
 . rcases h2.in' j hj with e | e
   . unfold updB at e
     split at e
     . subst j;exact .inr (.one hu)
     . exact h.in' j e
   . exact .inr (.more hu e)
 . rcases Nat.lt_succ_iff_lt_or_eq.1 hjk with h1 | rfl
   . exact hup _ (h.own m hm j hj h1 hz p hp)
   . rw [hs m hm hj p hp];exact hqq
 . rcases hfa2:updB f' q a with _ | _
   . exact h2.cl a b ha hfa2 hab
   . unfold updB at hfa2
     split at hfa2
     . subst a;exact h2.own b hab
     . exact hup _ (h.cl a b hfa2 hfa hab)
theorem Rchk.done {l:List MdlD} {n:Nat} {m:MdlD} {f f':Nat->Bool} (hm:l[n]? = some m) (h:Rchk l n m.vers.length f f'):Rchd l n f f' :=
 ⟨h.up,h.in',fun b ⟨m',hm',x,hx,hz,hf⟩=>by
   rw [hm] at hm';injection hm' with hm';subst hm'
   obtain ⟨j,hj,rfl⟩:=List.getElem_of_mem hx
   exact h.own m hm j hj hj hz b hf,h.cl⟩
theorem grown_set (w:World) (GB q:Nat) (v:Value):w.grownBy (w.setCell ⟨GB,q,none⟩ v) (some GB) :=
 ⟨rfl,rfl,rfl,by simp,fun b hb hn=>Below.heap_setCell _ _ _ _ (by intro e;exact hn (by rw [e]))⟩
theorem LibA.grown {N:Nat} {l:List MdlD} {a:Option Addr} {c LB NB SB cnt GB:Nat} {w w':World} (h:LibA N l a c LB NB SB cnt w) (g:w.grownBy w' (some GB)) (h1:N<=GB) (h2:LB≠GB) (h3:NB≠GB):LibA N l a c LB NB SB cnt w':=by
 have hk:∀ b,b<w.heap.size->b≠GB->w'.heap[b]? = w.heap[b]? := fun b hb hn=>g.block b hb (by intro e;injection e with e;exact hn e)
 have hb:Below N w w':=⟨g.os,g.tape,g.output,g.size,fun b hb=>hk b (Nat.lt_of_lt_of_le hb h.nl) (by omega)⟩
 have hc:∀ o u,w.cell? ⟨LB,o,none⟩=some u->w'.cell? ⟨LB,o,none⟩=some u:=fun o u hu=>g.cell hu (by intro e;injection e with e;exact h2 e)
 exact ⟨hc _ _ h.c0,hc _ _ h.c1,hc _ _ h.c2,h.lib.below hb,h.nam.keep (hk _ h.nb h3),Nat.lt_of_lt_of_le h.lb g.size,Nat.lt_of_lt_of_le h.nb g.size,Nat.le_trans h.nl g.size⟩
def ReachP (l:List MdlD) (GB n:Nat) (f:Nat->Bool) (w:World) (e:Ending) (w':World):Prop:=e=.returned (.tuple #[])/\∃ f',SeenAt GB l.length f' w'/\Rchd l n f f'/\w.grownBy w' (some GB)
theorem reach1_any (N:Nat) (l:List MdlD) (a:Option Addr) (c LB NB SB cnt GB cp:Nat) (f:Nat->Bool) (k q B0 B1:Nat) (w:World) (hA:LibA N l a c LB NB SB cnt w) (hG:SeenAt GB l.length f w) (hq:q<l.length) (hcp:l.length<=cp) (h1:N<=GB) (h2:LB≠GB) (h3:NB≠GB)
   (c0:w.cell? ⟨B0,0,none⟩=some (.slice (some ⟨GB,0,none⟩) l.length cp)) (c1:w.cell? ⟨B1,0,none⟩=some (.pointer (some ⟨LB,0,none⟩))) (n0:B0≠GB) (n1:B1≠GB)
   (hR:f q=false->∀ wx,LibA N l a c LB NB SB cnt wx->SeenAt GB l.length (updB f q) wx->Calls Tryz.prog 84 #[.pointer (some ⟨LB,0,none⟩),.int .i64 q,.slice (some ⟨GB,0,none⟩) l.length cp] wx (ReachP l GB q (updB f q) wx)) :
   Calls Tryz.prog 121 #[.int .i64 k,.int .i64 q,.pointer (some ⟨B0,0,none⟩),.pointer (some ⟨B1,0,none⟩)] w fun e w'=>e=.returned (.bool true)/\∃ f2,SeenAt GB l.length f2 w'/\((f q=true/\f2=f)\/(f q=false/\Rchd l q (updB f q) f2))/\w.grownBy w' (some GB):=by
 have hqI:(q:Int)<(l.length:Int):=by omega
 have hq0:(0:Int)<=(q:Int):=by omega
 have hcq:=hG.at' q hq
 have hfq:=hG.fr q hq
 cases hf:f q with
 | true =>
  have HG:=hid hG
  rw [hf] at hcq
  clear hR hA hG
  go_enter Tryz.func121,Tryz.ntmps121
  go_wp2_with fail
  go_ret
  exact ⟨rfl,f,HG.o,.inl ⟨by trivial,rfl⟩,World.grownBy.refl _ _⟩
 | false =>
  rw [hf] at hcq
  have g1:=grown_set w GB q (.bool true)
  have HC:=hid (hR hf (w.setCell ⟨GB,q,none⟩ (.bool true)) (hA.grown g1 h1 h2 h3) (hG.set hq))
  have HG1:=hid g1
  have d0:=g1.cell c0 (by intro e;injection e with e;exact n0 e)
  have d1:=g1.cell c1 (by intro e;injection e with e;exact n1 e)
  clear hR hA hG g1
  go_enter Tryz.func121,Tryz.ntmps121
  go_upto_region 3 with fail
  generalize w.setCell ⟨GB,q,none⟩ (.bool true)=W1 at *
  go_wp2_with fail
  (with_reducible refine (HC.o).mono ?_)
  rintro e w2 ⟨rfl,f2,hs2,hr2,g2⟩
  have HS2:=hid hs2
  have HR2:=hid hr2
  have HG2:=hid (HG1.o.trans g2)
  clear HC HG1 hs2 hr2 g2
  go_wp2_with fail
  go_ret
  exact ⟨rfl,f2,HS2.o,.inr ⟨by trivial,HR2.o⟩,HG2.o⟩
theorem reach_any (N:Nat) (l:List MdlD) (a:Option Addr) (c LB NB SB cnt GB cp:Nat) (hll:l.length<=100000) (hvl:∀ x ∈ l,x.vers.length<=10000) (hsb:∀ x ∈ l,∀ y ∈ x.vers,y.sb.size<=140737488355328) (hfd:∀ x ∈ l,∀ y ∈ x.vers,0<y.sb.size->∃ q,fnd l y.sb=some q) (hcp:l.length<=cp) (h1:N<=GB) (h2:LB≠GB) (h3:NB≠GB) :
   ∀ (d:Nat) (f:Nat->Bool) (n:Nat) (w:World),LibA N l a c LB NB SB cnt w->SeenAt GB l.length f w->cntF f l.length<d->n<l.length->Calls Tryz.prog 84 #[.pointer (some ⟨LB,0,none⟩),.int .i64 n,.slice (some ⟨GB,0,none⟩) l.length cp] w (ReachP l GB n f w):=by
 intro d
 induction d with
 | zero=>intro f n w _ _ h;omega
 | succ d ih =>
  intro f n w hA hG hd hn
  have hU:∀ W1,Bl w W1->w.heap.size+1<W1.heap.size->W1.cell? ⟨w.heap.size,0,none⟩=some (.pointer (some ⟨LB,0,none⟩))->W1.cell? ⟨w.heap.size+1,0,none⟩=some (.slice (some ⟨GB,0,none⟩) l.length cp) ->
      Calls Tryz.prog 51 #[.pointer (some ⟨LB,0,none⟩),.int .i64 n,.func (.func 121) #[] #[.pointer (some ⟨w.heap.size+1,0,none⟩),.pointer (some ⟨w.heap.size,0,none⟩)]] W1 fun e w'=>e=.returned (.bool true)/\∃ f',SeenAt GB l.length f' w'/\Rchd l n f f'/\W1.grownBy w' (some GB):=fun W1 g hz c0 c1=>by
    have hA1:=hA.below g
    have hGl:=hG.lt
    have hne1:w.heap.size+1≠GB:=by omega
    have hne0:w.heap.size≠GB:=by omega
    have hm:l[n]? = some l[n]:=List.getElem?_eq_getElem hn
    have hmem:=List.getElem_mem hn
    have lb:∀ wr,W1.grownBy wr (some GB)->LibA N l a c LB NB SB cnt wr:=fun wr g=>hA1.grown g h1 h2 h3
    refine (usesRe_any N l a c LB NB SB cnt l[n] n (w.heap.size+1) w.heap.size W1 (fun k wr=>∃ f',SeenAt GB l.length f' wr/\Rchk l n k f f'/\W1.grownBy wr (some GB)) (fun _=>False) hn rfl hll (hvl _ hmem) (hsb _ hmem) ?_ ?_ ?_ ?_ ?_).mono ?_
    . rintro k wr ⟨f',_,_,g'⟩
      exact ⟨lb wr g',⟨g'.os,g'.tape,g'.output,g'.size,fun b hb=>g'.block b (Nat.lt_of_lt_of_le hb hA1.nl) (by intro e;injection e with e;omega)⟩⟩
    . rintro k wr wx ⟨f',hs,hr,g'⟩ hx
      exact ⟨f',hs.below hx,hr,g'.trans (grown_below hx)⟩
    . rintro k wr hk ⟨f',hs,hr,g'⟩ h0
      exact ⟨f',hs,hr.skip fun m hm' hk' hp=>by rw [hm] at hm';injection hm' with hm';subst hm';omega,g'⟩
    . rintro k wr hk ⟨f',hs,hr,g'⟩ hp
      obtain ⟨q,hq⟩:=hfd _ hmem _ (List.getElem_mem hk) hp
      obtain ⟨hql,_⟩:=fnd_some hq
      rw [fndI_some hq]
      have hc:=cntF_le hr.up l.length
      refine (reach1_any N l a c LB NB SB cnt GB cp f' k q (w.heap.size+1) w.heap.size wr (lb wr g') hs hql hcp h1 h2 h3 (g'.cell c1 (by intro e;injection e with e;exact hne1 e)) (g'.cell c0 (by intro e;injection e with e;exact hne0 e)) hne1 hne0 fun hf wx hAx hsx=>ih (updB f' q) q wx hAx hsx (by have:=cntF_upd hf l.length hql;omega) hql).mono ?_
      rintro e w' ⟨rfl,f2,hs2,hor,g2⟩
      refine ⟨true,rfl,fun _=>⟨f2,hs2,?_,g'.trans g2⟩,by simp⟩
      have hone:∀ m,l[n]? = some m->∀ (h:k<m.vers.length),∀ p,fnd l m.vers[k].sb=some p->p=q:=fun m hm' hk' p hp'=>by
        rw [hm] at hm';injection hm' with hm';subst hm'
        rw [hq] at hp';injection hp' with hp';exact hp'.symm
      rcases hor with ⟨ht,rfl⟩ | ⟨hf,hr2⟩
      . exact hr.skip fun m hm' hk' _ p hp'=>by rw [hone m hm' hk' p hp'];exact ht
      . exact hr.more ⟨_,hm,_,List.getElem_mem hk,hp,hq⟩ hf hr2 hone
    . exact ⟨f,hG.below g,Rchk.zero,World.grownBy.refl _ _⟩
    . rintro e w' ⟨b,rfl,ht,hf⟩
      cases b with
      | true =>
       obtain ⟨f',hs,hr,g'⟩:=ht rfl
       exact ⟨rfl,f',hs,hr.done hm,g'⟩
      | false=>exact (hf rfl).elim
  have HU:=hid hU
  clear hU ih hA hG
  go_enter Tryz.func84,Tryz.ntmps84
  go_upto_region 1 with fail
  have HB2:=hid (below_al2 w (.cells #[.pointer (some ⟨LB,0,none⟩)] 72) (.cells #[.slice (some ⟨GB,0,none⟩) l.length cp] 64))
  have hc:=cells2 w #[.pointer (some ⟨LB,0,none⟩)] #[.slice (some ⟨GB,0,none⟩) l.length cp] 72 64 0
  have hz:w.heap.size+1<((w.alloc (.cells #[.pointer (some ⟨LB,0,none⟩)] 72)).alloc (.cells #[.slice (some ⟨GB,0,none⟩) l.length cp] 64)).heap.size:=by simp
  generalize (w.alloc (.cells #[.pointer (some ⟨LB,0,none⟩)] 72)).alloc (.cells #[.slice (some ⟨GB,0,none⟩) l.length cp] 64)=W1 at *
  have hC0:W1.cell? ⟨w.heap.size,0,none⟩=some (.pointer (some ⟨LB,0,none⟩)):=hc.1
  have hC1:W1.cell? ⟨w.heap.size+1,0,none⟩=some (.slice (some ⟨GB,0,none⟩) l.length cp):=hc.2
  have HUW:=hid (HU.o W1 HB2.o hz hC0 hC1)
  clear HU hc
  go_wp2_with fail
  (with_reducible refine (HUW.o).mono ?_)
  rintro e w2 ⟨rfl,f',hs,hr,g2⟩
  have HS:=hid hs
  have HR:=hid hr
  have HG:=hid ((grown_below HB2.o).trans g2)
  clear HUW HB2 hs hr g2
  go_wp2_with fail
  go_end0
  exact ⟨rfl,f',HS.o,HR.o,HG.o⟩
theorem info_Bool:(Tryz.prog.info? 4).map (fun i=>(i.zero,i.size,i.bytes))=some (some (.bool false),1,1):=by kernel_rfl
theorem made_false (n:Nat):(madeCells (Value.bool false).cells (n * 1)).toList=List.replicate n (.bool false):=by
 apply List.ext_getElem?
 intro j
 by_cases h:j<n <;> simp [madeCells,Value.cells,Nat.mod_one,h]
theorem rchd_is {l:List MdlD} {n:Nat} {f':Nat->Bool} (h:Rchd l n (fun _=>false) f') (j:Nat):f' j=rB l n j:=by
 rw [Bool.eq_iff_iff,rB_iff]
 constructor
 . intro e
   rcases h.in' j e with h | h
   . cases h
   . exact h
 . intro e
   exact Rch.closed (S:=fun b=>f' b=true) h.own (fun b c hb hu=>h.cl b c hb rfl hu) e
theorem reached_any (N:Nat) (l:List MdlD) (a:Option Addr) (c LB NB SB cnt n:Nat) (w:World) (hll:l.length<=100000) (hvl:∀ x ∈ l,x.vers.length<=10000) (hsb:∀ x ∈ l,∀ y ∈ x.vers,y.sb.size<=140737488355328) (hfd:∀ x ∈ l,∀ y ∈ x.vers,0<y.sb.size->∃ q,fnd l y.sb=some q) (hA:LibA N l a c LB NB SB cnt w) (hn:n<l.length) :
   Calls Tryz.prog 47 #[.pointer (some ⟨LB,0,none⟩),.int .i64 n] w fun e w'=>e=.returned (.slice (some ⟨w.heap.size,0,none⟩) l.length l.length)/\SeenAt w.heap.size l.length (rB l n) w'/\Bl w w':=by
 obtain ⟨iI,hiI,zI0,zI1,zI2⟩:=info_parts info_Bool
 have HBy:Hid (iI.bytes * l.length<=281474976710656):=hid (by rw [zI2];omega)
 have hmk:Hid (l.length<=maxLen):=hid (by unfold maxLen;omega)
 have hc0:=hA.c0
 have hlb:=hA.lb
 have hnb:=hA.nb
 have hnl:=hA.nl
 have HA:=hid hA
 have HR:=hid (reach_any N l a c LB NB SB cnt w.heap.size l.length hll hvl hsb hfd (Nat.le_refl _) hnl (by omega) (by omega) (cntF (fun _=>false) l.length+1) (fun _=>false) n)
 clear hA hvl hsb hfd
 go_enter Tryz.func47,Tryz.ntmps47
 go_upto_region 2 with (at_make;refine wpList_make_full _ rfl _ _ 64 rfl w.heap.size 4 iI (.bool false) 1 Tryz.underlying64 hiI zI0 zI1 .i64 .i64 (l.length:Int) (l.length:Int) l.length rfl rfl rfl rfl HBy.o hmk.o (Nat.le_refl _) ?_;intro w6 hown6 hgrow6)
 rw [made_false] at hown6
 have HB6:Hid (Bl w w6):=hid ((Below.refl _ w).grown hgrow6 (Nat.le_refl _) (fun q hq=>by cases hq))
 have hs6:SeenAt w.heap.size l.length (fun _=>false) w6:=⟨fun j hj=>(hown6.cellAt j (by omega)).trans (by simp [hj]),fun j _=>hown6.frozenAt j,(hown6.lt _ rfl).2⟩
 have HC:=hid (HR.o w6 (HA.o.below HB6.o) hs6 (by omega) hn)
 have HE:=hid fun f' (h:Rchd l n (fun _=>false) f')=>(funext (rchd_is h):f'=rB l n)
 clear hs6 hown6 hgrow6 HR HA
 go_wp2_with fail
 (with_reducible refine (HC.o).mono ?_)
 rintro e w7 ⟨rfl,f',hs,hr,g7⟩
 have HS:Hid (SeenAt w.heap.size l.length (rB l n) w7):=hid (by rw [<- HE.o f' hr];exact hs)
 have HB7:Hid (Bl w w7):=hid (HB6.o.grown g7 HB6.o.size (fun q hq=>by injection hq with hq;omega))
 clear HE hs hr g7
 go_wp2_with fail
 go_ret
 exact ⟨rfl,HS.o,HB7.o⟩
end Go.Proofs
