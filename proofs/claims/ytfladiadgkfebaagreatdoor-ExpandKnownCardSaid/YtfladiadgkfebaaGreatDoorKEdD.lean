/- Walks: the document's 'Used' (submachines). -/
import Derived.Test.YtfladiadgkfebaaGreatDoorKEdAB
import Derived.Test.YtfladiadgkfebaaGreatDoorKEmF
namespace Go.Md
open Go.RowKit Go.Lx Go.Proofs
open Lib(hid)
set_option maxRecDepth 100000
set_option maxHeartbeats 0
set_option linter.unusedVariables false
structure Bfs (l:List MdlD) (n i:Nat) (row:List Nat) (f:Nat->Bool):Prop where
 hd:row[0]? = some n
 nd:row.tail.Nodup
 mr:∀ j,f j=true↔j ∈ row.tail
 rc:∀ j,j ∈ row.tail->Rch l n j
 dn:∀ i' (h:i'<row.length),i'<i->∀ b,Use l row[i'] b->f b=true
def BfsV (l:List MdlD) (a k:Nat) (f:Nat->Bool):Prop:=∀ m,l[a]? = some m->∀ j (h:j<m.vers.length),j<k->0<m.vers[j].sb.size->∀ q,fnd l m.vers[j].sb=some q->f q=true
theorem BfsV.skip {l:List MdlD} {a k:Nat} {f f':Nat->Bool} (h:BfsV l a k f) (hf:∀ j,f j=true->f' j=true) (hk:∀ m,l[a]? = some m->∀ (h:k<m.vers.length),0<m.vers[k].sb.size->∀ q,fnd l m.vers[k].sb=some q->f' q=true):BfsV l a (k+1) f':=fun m hm j hj hjk h0 q hq=>by
 rcases Nat.lt_succ_iff_lt_or_eq.1 hjk with h1 | rfl
 . exact hf q (h m hm j hj h1 h0 q hq)
 . exact hk m hm hj h0 q hq
theorem Bfs.start (l:List MdlD) (n:Nat):Bfs l n 0 [n] (fun _=>false):=⟨rfl,List.nodup_nil,fun j=>by simp,fun j h=>by simp at h,fun _ _ h=>absurd h (Nat.not_lt_zero _)⟩
theorem nodup_lt:∀ {L:Nat} {l:List Nat},l.Nodup->(∀ x ∈ l,x<L)->l.length<=L
 | 0,l,_,h=>by
   cases l with
   | nil=>simp
   | cons x t=>have:=h x (by simp);omega
 | L+1,l,hn,h=>by
   have h1:=nodup_lt (L:=L) (l:=l.erase L) (hn.erase L) fun x hx=>by
     have h2:=h x (List.mem_of_mem_erase hx)
     have h3:x≠L:=fun e=>by
       subst e
       exact absurd hx (List.Nodup.not_mem_erase hn)
     omega
   have h4:l.length<=(l.erase L).length+1:=by
     rw [List.length_erase]
     split <;> omega
   omega
theorem Bfs.len {l:List MdlD} {n i:Nat} {row:List Nat} {f:Nat->Bool} (h:Bfs l n i row f):0<row.length/\row.length<=l.length+1:=by
 have h0:0<row.length:=by
   cases row with
   | nil=>have:=h.hd;simp at this
   | cons x t=>simp
 have:=nodup_lt h.nd fun x hx=>(h.rc x hx).lt.2
 rw [List.length_tail] at this
 omega
theorem Bfs.at_ {l:List MdlD} {n i:Nat} {row:List Nat} {f:Nat->Bool} (h:Bfs l n i row f) {j:Nat} (hj:j<row.length) (hn:n<l.length):row[j]<l.length/\(row[j]=n\/Rch l n row[j]):=by
 cases row with
 | nil=>simp at hj
 | cons x t =>
  have hx:x=n:=by have:=h.hd;simpa using this
  cases j with
  | zero=>simp only [List.getElem_cons_zero];rw [hx];exact ⟨hn,.inl rfl⟩
  | succ j =>
   have hm:(x :: t)[j+1] ∈ (x :: t).tail:=by simp
   have:=h.rc _ hm
   exact ⟨this.lt.2,.inr this⟩
theorem Bfs.add {l:List MdlD} {n i q:Nat} {row:List Nat} {f:Nat->Bool} (h:Bfs l n i row f) (hi:i<row.length) (hn:n<l.length) (hu:Use l row[i] q) (hq:f q=false):Bfs l n i (row ++ [q]) (updB f q):=by
 have h0:=h.len.1
 have ht:(row ++ [q]).tail=row.tail ++ [q]:=by
   cases row with
   | nil=>simp at h0
   | cons x t=>simp
 have hnot:q ∉ row.tail:=fun hm=>by rw [(h.mr q).2 hm] at hq;cases hq
 refine ⟨by rw [List.getElem?_append_left h0];exact h.hd,?_,fun j=>?_,fun j hj=>?_,fun i' hi' hii b hb=>?_⟩
 . rw [ht,List.nodup_append]
   refine ⟨h.nd,by simp,fun a ha b hb=>?_⟩
   rw [List.mem_singleton] at hb
   subst hb
   rintro rfl
   exact hnot ha
 . rw [ht,List.mem_append,List.mem_singleton]
   unfold updB
   by_cases e:j=q
   . subst e;simp
   . rw [if_neg e,h.mr j]
     exact ⟨.inl,fun h'=>h'.resolve_right e⟩
 . rw [ht,List.mem_append,List.mem_singleton] at hj
   rcases hj with hj | rfl
   . exact h.rc j hj
   . rcases (h.at_ hi hn).2 with e | e
     . rw [e] at hu;exact .one hu
     . exact e.trans (.one hu)
 . have hlt:i'<row.length:=by omega
   rw [List.getElem_append_left hlt] at hb
   exact updB_le _ (h.dn i' hlt hii b hb)
theorem Bfs.next {l:List MdlD} {n i:Nat} {row:List Nat} {f:Nat->Bool} (h:Bfs l n i row f) {m:MdlD} (hi:i<row.length) (hm:l[row[i]]? = some m) (hv:BfsV l row[i] m.vers.length f):Bfs l n (i+1) row f :=
 ⟨h.hd,h.nd,h.mr,h.rc,fun i' hi' hii b hb=>by
   by_cases e:i'=i
   . subst e
     obtain ⟨m',hm',x,hx,h0,hf⟩:=hb
     rw [hm] at hm'
     injection hm' with hm'
     subst hm'
     obtain ⟨j,hj,rfl⟩:=List.getElem_of_mem hx
     exact hv m hm j hj hj h0 b hf
   . exact h.dn i' hi' (by omega) b hb⟩
theorem Bfs.done {l:List MdlD} {n:Nat} {row:List Nat} {f:Nat->Bool} (h:Bfs l n row.length row f) (hn:n<l.length):f=rB l n:=by
 funext j
 rw [Bool.eq_iff_iff,rB_iff]
 constructor
 . intro hj;exact h.rc j ((h.mr j).1 hj)
 . intro hj
   have h0:=h.len.1
   refine Rch.closed (S:=fun b=>f b=true) (fun b hb=>?_) (fun b c hb hc=>?_) hj
   . have e:row[0]=n:=by have:=h.hd;rw [List.getElem?_eq_getElem h0] at this;injection this
     exact h.dn 0 h0 h0 b (by rw [e];exact hb)
   . have hm:=(h.mr b).1 hb
     obtain ⟨k,hk,e⟩:=List.getElem_of_mem (List.mem_of_mem_tail hm)
     exact h.dn k hk hk c (by rw [e];exact hc)
end Go.Md
namespace Go.Proofs
open Go.RowKit Go.Lx Go.Md Go.Shelf Go.BigFrame
open Lib(hid)
set_option maxRecDepth 100000
set_option maxHeartbeats 0
set_option linter.unusedVariables false
theorem SeenAt.low {GB L lo:Nat} {f:Nat->Bool} {w w':World} (h:SeenAt GB L f w) (hl:GB<lo) (g:Below lo w w'):SeenAt GB L f w' :=
 ⟨fun j hj=>(g.cell (p:=⟨GB,j,none⟩) hl).trans (h.at' j hj),fun j hj=>(g.frozen (p:=⟨GB,j,none⟩) hl).trans (h.fr j hj),Nat.lt_of_lt_of_le h.lt g.size⟩
def rowI (r:List Nat):List Int:=r.map fun (x:Nat)=>(x:Int)
theorem rowI_len (r:List Nat):(rowI r).length=r.length:=by simp [rowI]
structure UsS (l:List MdlD) (n i UB:Nat) (row:List Nat) (f:Nat->Bool) (rv:Value) (w0 w:World):Prop where
 b:Bfs l n i row f
 s:SeenAt UB l.length f w
 r:w.ownsRow (UB+1) 3 1 rv row.length (nums (rowI row))
 bel:Below UB w0 w
 hz:UB+1<=w.heap.size
theorem UsS.below {l:List MdlD} {n i UB:Nat} {row:List Nat} {f:Nat->Bool} {rv:Value} {w0 w w':World} (h:UsS l n i UB row f rv w0 w) (g:Below w.heap.size w w'):UsS l n i UB row f rv w0 w' :=
 ⟨h.b,h.s.below g,ownsRow_keep h.r g,h.bel.trans (g.mono (by have:=h.hz;omega)),Nat.le_trans h.hz g.size⟩
theorem row_ne {base T sz n:Nat} {w:World} {v:Value} {xs:List Value} (h:w.ownsRow base T sz v n xs) {b:Nat} {cur:Array Value} {T':TypeId} {fr:Nat × Nat} (hb:w.heap[b]? = some (.cells cur T' fr)) (hT:T'≠T):some b≠v.ownBlock:=by
 intro e
 rcases h.2 with ⟨rfl,_⟩ | ⟨g,cap,c,rfl,_,hg,_⟩
 . cases e
 . simp only [Value.ownBlock,Option.some.injEq] at e
   subst e
   rw [hb] at hg
   simp only [Option.some.injEq,Obj.cells.injEq] at hg
   exact hT hg.2.1
theorem rused_any (N:Nat) (l:List MdlD) (a:Option Addr) (c n:Nat) (w:World) (hl:LibV N w (.slice a l.length c) l) (hN:N<=w.heap.size) (hll:l.length<=1000) (hn:n<l.length) (hvl:∀ x ∈ l,x.vers.length<=10000) (hfd:∀ x ∈ l,∀ y ∈ x.vers,0<y.sb.size->∃ q,fnd l y.sb=some q) :
   Calls Tryz.prog 23 #[.slice a l.length c,.int .i64 n] w fun e w'=>e=.returned (.slice (some ⟨w.heap.size,0,none⟩) l.length l.length)/\SeenAt w.heap.size l.length (rB l n) w'/\Below w.heap.size w w':=by
 obtain ⟨iB,hiB,zB0,zB1,zB2⟩:=info_parts info_Bool
 obtain ⟨iI,hNi,zI0,zI1,zI2⟩:=info_parts info_Num
 have HBy:Hid (iB.bytes * l.length<=281474976710656):=hid (by rw [zB2];omega)
 have hmk:Hid (l.length<=maxLen):=hid (by unfold maxLen;omega)
 have HLb:=hid fun wx (g:Below w.heap.size w wx)=>LibV.below hl (g.mono hN)
 have HFd:=hid hfd
 have HVl:=hid hvl
 obtain ⟨b1,o1,e1,hb1,_⟩:=hl.get hn
 subst e1
 clear hl hfd hvl
 go_enter Tryz.func23,Tryz.ntmps23
 go_upto_region 2 with (at_make;refine wpList_make_full _ rfl _ _ 64 rfl w.heap.size 4 iB (.bool false) 1 Tryz.underlying64 hiB zB0 zB1 .i64 .i64 (l.length:Int) (l.length:Int) l.length rfl rfl rfl rfl HBy.o hmk.o (Nat.le_refl _) ?_;intro w6 hown6 hgrow6)
 rw [made_false] at hown6
 have hB6:Below w.heap.size w w6:=(Below.refl _ w).grown hgrow6 (Nat.le_refl _) (fun q hq=>by cases hq)
 have hs6:SeenAt w.heap.size l.length (fun _=>false) w6:=⟨fun j hj=>(hown6.cellAt j (by omega)).trans (by simp [hj]),fun j _=>hown6.frozenAt j,(hown6.lt _ rfl).2⟩
 have hlit:=World.ownsRow_lit (base:=w.heap.size+1) (e:=3) (size:=1) w6 #[.int .i64 n] 1 (by have:=hs6.lt;omega) (by unfold maxLen;omega) (by simp)
 have hz6:=hs6.lt
 have hU:UsS l n 0 w.heap.size [n] (fun _=>false) (.slice (some ⟨w6.heap.size,0,none⟩) 1 1) w (w6.alloc (.cells #[.int .i64 n] 3)) :=
   ⟨Bfs.start l n,hs6.below (below_al1 w6 _),hlit,hB6.trans ((below_al1 w6 _).mono (by omega)),by simp;omega⟩
 have HU:=hid hU
 clear hlit hU hs6 hown6 hgrow6 hB6
 go_upto_region 3 with fail
 generalize w6.alloc (.cells #[.int .i64 n] 3)=W7 at *
 go_wp2_with fail
 go_loopw [6,7] (fun rv iv wr=>∃ (i:Nat) (row:List Nat) (f:Nat->Bool) (ar:Option Addr) (cr:Nat),rv=.slice ar row.length cr/\iv=.int .i64 i/\i<=row.length/\UsS l n i w.heap.size row f (.slice ar row.length cr) w wr) (fun _ iv _=>l.length+1 - (intOf iv).toNat)
 case atStart=>exact ⟨0,[n],_,_,1,rfl,by go_num,by simp,HU.o⟩
 case round =>
  clear HU
  obtain ⟨wo,rfl⟩:=ex1 wr
  obtain ⟨i,row,f,ar,cr,rfl,rfl,hi,hu⟩:=hrel
  have HU:=hid hu
  have hrl:=hu.b.len
  by_cases hlt:i<row.length
  . obtain ⟨av,hav⟩:=ex2 (row[i])
    have hat:=hu.b.at_ hlt hn
    rw [hav] at hat
    obtain ⟨ha,_⟩:=hat
    obtain ⟨g,cg,hag,hgH,hgl⟩:=hu.r.form (by omega)
    simp only [Value.slice.injEq] at hag
    obtain rfl:=hag.1
    clear hag
    have hci:wo.cell? ⟨g,i,none⟩=some (.int .i64 av):=(hu.r.cellAt i (by omega)).trans (by simp [nums,rowI,hlt,hav])
    have hbw:=hu.bel
    obtain ⟨m,hm⟩:=ex2 (l[av])
    obtain ⟨b2,o2,e2,hb2,pm,hmo,r0,r1,r2,r3,r4,r5⟩:=(HLb.o wo hbw).get ha
    simp only [Option.some.injEq,Addr.mk.injEq] at e2
    obtain ⟨rfl,rfl,_⟩:=e2
    rw [hm] at hmo r0 r1 r2 r3 r4 r5
    have HMo:=hid fun wx (g:Below w.heap.size wo wx)=>hmo.keptN (g.mono hN)
    have HM:=hid hm
    have HAv:=hid hav
    have hzo:=hu.hz
    have hvl:=HVl.o _ (List.getElem_mem ha)
    rw [hm] at hvl
    have hiI:(i:Int)<(row.length:Int):=by omega
    have hi0:(0:Int)<=(i:Int):=by omega
    have haI:(av:Int)<(l.length:Int):=by omega
    have ha0:(0:Int)<=(av:Int):=by omega
    clear hu hmo hm hav hbw
    go_upto_region 7 with fail
    have hBm:=below_al1 wo (.cells #[.string m.nm,.slice pm.a1 m.vars.length pm.c1,.slice pm.a2 m.evs.length pm.c2,.slice pm.a3 m.regs.length pm.c3,.slice pm.a4 m.vers.length pm.c4,.slice pm.a5 m.trns.length pm.c5] 33)
    have hXm:=World.alloc_heap_new wo (.cells #[.string m.nm,.slice pm.a1 m.vars.length pm.c1,.slice pm.a2 m.evs.length pm.c2,.slice pm.a3 m.regs.length pm.c3,.slice pm.a4 m.vers.length pm.c4,.slice pm.a5 m.trns.length pm.c5] 33)
    have hU1:=HU.o.below hBm
    generalize wo.alloc (.cells #[.string m.nm,.slice pm.a1 m.vars.length pm.c1,.slice pm.a2 m.evs.length pm.c2,.slice pm.a3 m.regs.length pm.c3,.slice pm.a4 m.vers.length pm.c4,.slice pm.a5 m.trns.length pm.c5] 33)=W8 at *
    have HU1:=hid hU1
    have HXm:=hid hXm
    have HBm:=hid hBm
    obtain ⟨x0,x1,x2,x3,x4,x5,_⟩:=box_at hXm
    clear hU1 hXm hBm hci r0 r1 r2 r3 r4 r5 HU
    go_wp2_with fail
    go_loopw [6,9] (fun rv kv wr=>∃ (k:Nat) (row':List Nat) (f:Nat->Bool) (ar:Option Addr) (cr:Nat),rv=.slice ar row'.length cr/\kv=.int .i64 k/\k<=m.vers.length/\(i<row'.length/\row'[i]? = some av)/\UsS l n i w.heap.size row' f (.slice ar row'.length cr) w wr/\BfsV l av k f/\wr.heap[wo.heap.size]? = some (.cells #[.string m.nm,.slice pm.a1 m.vars.length pm.c1,.slice pm.a2 m.evs.length pm.c2,.slice pm.a3 m.regs.length pm.c3,.slice pm.a4 m.vers.length pm.c4,.slice pm.a5 m.trns.length pm.c5] 33 (0,0))/\Below w.heap.size wo wr) (fun _ kv _=>m.vers.length - (intOf kv).toNat)
    case atStart=>exact ⟨0,row,f,_,cr,rfl,by go_num,by omega,⟨hlt,by rw [List.getElem?_eq_getElem hlt,HAv.o]⟩,HU1.o,fun _ _ _ _ h=>absurd h (Nat.not_lt_zero _),HXm.o,HBm.o.mono (by omega)⟩
    case round =>
     clear HU1 HXm HBm x0 x1 x2 x3 x4 x5 hrl
     obtain ⟨wp,rfl⟩:∃ wo:World,wo=wr:=⟨_,rfl⟩
     obtain ⟨k,row',f',ar,cr',rfl,rfl,hk,⟨hil,hia⟩,hu,hbv,hxm,hbm⟩:=hrel
     have HU:=hid hu
     have HIa:=hid hia
     have HBv:=hid hbv
     have HXp:=hid hxm
     have HBp:=hid hbm
     have hrl:=hu.b.len
     have hzp:=hu.hz
     have hxl:=(Array.getElem?_eq_some_iff.1 hxm).1
     obtain ⟨x0,x1,x2,x3,x4,x5,_⟩:=box_at hxm
     have hma:∀ m',l[av]? = some m'->m'=m:=fun m' h=>by
       rw [List.getElem?_eq_getElem ha,HM.o] at h
       injection h with h
       exact h.symm
     have HMa:=hid hma
     clear hu hia hbv hxm hbm hma
     by_cases hlk:k<m.vers.length
     . have hkI:(k:Int)<(m.vers.length:Int):=by omega
       have hk0:(0:Int)<=(k:Int):=by omega
       obtain ⟨b2,o2,e2,hb2,dv,hdv,r0,r1,r2,r3,r4,r5,r6,r7⟩:=(HMo.o wp HBp.o).vers.get hlk
       have hmem:=List.getElem_mem hlk
       have HFq:=hid (HFd.o m (by rw [<- HM.o];exact List.getElem_mem ha) _ hmem)
       have HUs:Hid (∀ q,0<m.vers[k].sb.size->fnd l m.vers[k].sb=some q->Use l av q):=hid fun q h1 h2=>⟨m,by rw [List.getElem?_eq_getElem ha,HM.o],_,hmem,h1,h2⟩
       have HSk:Hid (∀ f2:Nat->Bool,(∀ j,f' j=true->f2 j=true)->(0<m.vers[k].sb.size->∀ q,fnd l m.vers[k].sb=some q->f2 q=true)->BfsV l av (k+1) f2):=hid fun f2 h1 h2=>HBv.o.skip h1 fun m' hm' hk' h0 q hq=>by
         obtain rfl:=HMa.o m' hm'
         exact h2 h0 q hq
       have HFi:=hid (rfind_any N l _ c m.vers[k].sb wp (HLb.o wp HU.o.bel) (by omega))
       obtain ⟨y,hy⟩:=ex2 (m.vers[k])
       rw [hy] at r7 HFq HUs HSk HFi
       rw [e2] at x4
       have hz:y.sb.toList.isEmpty=true↔y.sb.size=0:=by rw [toList_eq',List.isEmpty_iff,<- List.length_eq_zero_iff];simp
       have HZ:=hid hz
       clear hz hdv hy hmem e2 r0 r1 r2 r3 r4 r5 r6
       cases hse:y.sb.toList.isEmpty with
       | true =>
        have HB1:=hid (HSk.o f' (fun _ h=>h) fun h=>by have:=HZ.o.1 hse;omega)
        clear HFi HFq HUs HSk
        go_wp2_with fail
        go_roundw
        case rel=>exact ⟨k+1,row',f',ar,cr',rfl,by go_num,by omega,⟨hil,HIa.o⟩,HU.o,HB1.o,HXp.o,HBp.o⟩
        case measure=>simp [intOf] <;> omega
       | false =>
        have hpos:0<y.sb.size:=by
          rcases Nat.eq_zero_or_pos y.sb.size with h | h
          . rw [HZ.o.2 h] at hse;cases hse
          . exact h
        obtain ⟨q,hq⟩:=HFq.o hpos
        obtain ⟨hql,_⟩:=fnd_some hq
        rw [fndI_some hq] at HFi
        have HUq:=hid (HUs.o q hpos hq)
        have HSq:Hid (∀ f2:Nat->Bool,(∀ j,f' j=true->f2 j=true)->f2 q=true->BfsV l av (k+1) f2):=hid fun f2 h1 h2=>HSk.o f2 h1 fun _ q' hq'=>by
          rw [hq] at hq'
          injection hq' with hq'
          rw [<- hq'];exact h2
        have hcq:=HU.o.s.at' q hql
        have hfr:=HU.o.s.fr q hql
        have hqI:(q:Int)<(l.length:Int):=by omega
        have hq0:(0:Int)<=(q:Int):=by omega
        clear hq HFq HUs HSk
        cases hfq:f' q with
        | true =>
         rw [hfq] at hcq
         have HB1:=hid (HSq.o f' (fun _ h=>h) hfq)
         clear hfq
         go_wp2_with ((with_reducible refine (HFi.o).mono ?_);rintro e w5 ⟨rfl,hw5⟩;subst w5)
         go_roundw
         case rel=>exact ⟨k+1,row',f',ar,cr',rfl,by go_num,by omega,⟨hil,HIa.o⟩,HU.o,HB1.o,HXp.o,HBp.o⟩
         case measure=>simp [intOf] <;> omega
        | false =>
         rw [hfq] at hcq
         have HB1:=hid (HSq.o (updB f' q) updB_le (by unfold updB;rw [if_pos rfl]))
         have hri:row'[i]=av:=by have:=HIa.o;rw [List.getElem?_eq_getElem hil] at this;injection this
         have HAd:=hid (HU.o.b.add hil hn (by rw [hri];exact HUq.o) hfq)
         clear hfq hri
         go_upto_region 14 with ((with_reducible refine (HFi.o).mono ?_);rintro e w5 ⟨rfl,hw5⟩;subst w5)
         have hS6:SeenAt w.heap.size l.length (updB f' q) (wp.setCell ⟨w.heap.size,q,none⟩ (.bool true)):=HU.o.s.set hql
         have hR6:(wp.setCell ⟨w.heap.size,q,none⟩ (.bool true)).ownsRow (w.heap.size+1) 3 1 (.slice ar row'.length cr') row'.length (nums (rowI row')):=ownsRow_setCell_below HU.o.r (by simp only;omega) _
         have hX6:(wp.setCell ⟨w.heap.size,q,none⟩ (.bool true)).heap[wo.heap.size]? = some (.cells #[.string m.nm,.slice pm.a1 m.vars.length pm.c1,.slice pm.a2 m.evs.length pm.c2,.slice pm.a3 m.regs.length pm.c3,.slice pm.a4 m.vers.length pm.c4,.slice pm.a5 m.trns.length pm.c5] 33 (0,0)):=(Below.heap_setCell _ ⟨w.heap.size,q,none⟩ _ _ (by simp only;omega)).trans HXp.o
         have hB6:Below w.heap.size wo (wp.setCell ⟨w.heap.size,q,none⟩ (.bool true)):=HBp.o.setCell (Nat.le_refl _) _
         have hB7:Below w.heap.size w (wp.setCell ⟨w.heap.size,q,none⟩ (.bool true)):=HU.o.bel.setCell (Nat.le_refl _) _
         have hz6':w.heap.size+1<=(wp.setCell ⟨w.heap.size,q,none⟩ (.bool true)).heap.size:=by simpa using hzp
         generalize wp.setCell ⟨w.heap.size,q,none⟩ (.bool true)=W9 at *
         have HR6:Hid (W9.ownsRow (w.heap.size+1) 3 1 (.slice ar row'.length cr') (rowI row').length (nums (rowI row'))):=hid (by rw [rowI_len];exact hR6)
         have HS6:=hid hS6
         have HX6:=hid hX6
         have HB6:=hid hB6
         have HB7:=hid hB7
         clear hS6 hX6 hB6 hB7 hcq hfr x0 x1 x2 x3 x4 x5
         go_wp2_with (at_builtin;refine wpList_append_row _ rfl _ _ 95 rfl 3 (w.heap.size+1) iI (.int .i64 0) Tryz.underlying95 hNi zI0 zI1 zI2 rfl _ (rowI row') rfl (HR6.o.alloc _) _ [(q:Int)] rfl (row1 _ _ _) (by rw [rowI_len];simp only [List.length_cons,List.length_nil];omega) (by simp;omega) ?_;intro v4 w4 hown4 hgrow4 hnxt4)
         have hlow:Below (w.heap.size+1) W9 w4:=push_low hz6' HR6.o hgrow4
         have hne:=row_ne (HR6.o.alloc (.cells #[.int .i64 q] 3)) (((below_al1 W9 (.cells #[.int .i64 q] 3)).block _ (Array.getElem?_eq_some_iff.1 HX6.o).1).trans HX6.o) (by decide)
         have hX4:=(hgrow4.block _ (by have:=(Array.getElem?_eq_some_iff.1 HX6.o).1;simp;omega) hne).trans (((below_al1 W9 (.cells #[.int .i64 q] 3)).block _ (Array.getElem?_eq_some_iff.1 HX6.o).1).trans HX6.o)
         obtain ⟨ar4,cr4,rfl⟩:=ownsRow_slice hown4
         have hlen:(rowI row' ++ [(q:Int)]).length=row'.length+1:=by rw [List.length_append,rowI_len];rfl
         have hrow:rowI (row' ++ [q])=rowI row' ++ [(q:Int)]:=by simp [rowI]
         rw [hlen] at hown4 |-
         have HN4:Hid (UsS l n i w.heap.size (row' ++ [q]) (updB f' q) (.slice ar4 (row' ++ [q]).length cr4) w w4):=hid ⟨HAd.o,HS6.o.low (by omega) hlow,by
           rw [hrow,List.length_append];exact hown4,HB7.o.trans (hlow.mono (by omega)),by have:=hlow.size;omega⟩
         have HX4:=hid hX4
         have HB4:=hid (HB6.o.trans (hlow.mono (by omega)))
         clear hlow hne hX4 hlen hrow hown4 hgrow4 hnxt4
         go_roundw
         case rel=>exact ⟨k+1,row' ++ [q],updB f' q,ar4,cr4,by rw [List.length_append];rfl,by go_num,by omega,⟨by rw [List.length_append];omega,by rw [List.getElem?_append_left hil];exact HIa.o⟩,HN4.o,HB1.o,HX4.o,HB4.o⟩
         case measure=>simp [intOf] <;> omega
     . obtain rfl:k=m.vers.length:=by omega
       have hri:row'[i]=av:=by have:=HIa.o;rw [List.getElem?_eq_getElem hil] at this;injection this
       have HN1:Hid (UsS l n (i+1) w.heap.size row' f' (.slice ar row'.length cr') w wp):=hid ⟨HU.o.b.next (m:=m) hil (by rw [hri,List.getElem?_eq_getElem ha,HM.o]) (by rw [hri];exact HBv.o),HU.o.s,HU.o.r,HU.o.bel,HU.o.hz⟩
       clear hri
       go_wp2_with fail
       go_roundw
       case rel=>exact ⟨i+1,row',f',ar,cr',rfl,by go_num,by omega,HN1.o⟩
       case measure=>simp [intOf] <;> omega
  . obtain rfl:i=row.length:=by omega
    have HF:=hid (hu.b.done hn)
    have HS:Hid (SeenAt w.heap.size l.length (rB l n) wo):=hid (by rw [<- HF.o];exact hu.s)
    clear hu
    go_wp2_with fail
    go_ret
    exact ⟨rfl,HS.o,HU.o.bel⟩
end Go.Proofs
