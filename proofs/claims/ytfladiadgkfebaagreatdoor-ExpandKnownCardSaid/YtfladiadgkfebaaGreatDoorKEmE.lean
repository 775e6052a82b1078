/- Walks: 'tied' of the program's expand. -/
import Derived.Test.YtfladiadgkfebaaGreatDoorKRyEm
import Derived.Test.YtfladiadgkfebaaGreatDoorKEmCD
namespace Go.Proofs
open Go.RowKit Go.Lx Go.Md Go.Maps Go.BigFrame Go.Rgi
open Lib(hid)
set_option maxRecDepth 100000
set_option maxHeartbeats 0
set_option linter.unusedVariables false
theorem any_noE {P:Int->Bool} {l:List Int} (h:∀ j (hj:j<l.length),P l[j]=false):l.any P=false:=by
 rw [List.any_eq_false];intro y hy
 obtain ⟨j,hj,rfl⟩:=List.getElem_of_mem hy
 rw [h j hj];simp
theorem any_yesE {P:Int->Bool} {l:List Int} {j:Nat} (hj:j<l.length) (h:P l[j]=true):l.any P=true:=by
 rw [List.any_eq_true];exact ⟨_,List.getElem_mem hj,h⟩
theorem below_chE {w a b:World} (h:Bl w a) (g:Bl a b):Bl w b:=h.trans (g.mono h.size)
def IdxQE (P:Int->Bool) (l:List Int) (w:World) (e:Ending) (w':World):Prop:=∃ i:Int,e=.returned (.int .i64 i)/\((i=-1/\∀ j (hj:j<l.length),P l[j]=false)\/∃ k:Nat,∃ hk:k<l.length,i=k/\P l[k]=true/\∀ j (hj:j<l.length),j<k->P l[j]=false)/\Bl w w'
theorem bnd_neg (p:VerD) (x:MdlD):decide (bndI p x<0)=!(bnd p x).isSome:=by
 unfold bndI
 cases bnd p x with
 | none=>rfl
 | some n=>simp
theorem Mod.keptN {N:Nat} {w w':World} {m:MdlD} {p:Ph} (h:Mod (fun _=>OldB N) w m p) (g:Below N w w'):Mod (fun _=>OldB N) w' m p :=
 h.kept (fun _=>(⟨g.size,fun b _ hb=>g.block b hb⟩:Kept (OldB N) w w'))
theorem tied11_any (N:Nat) (l:List MdlD) (a:Option Addr) (c LB NB SB cnt:Nat) (m:MdlD) (ph:Ph) (v q B0 B1 B2:Nat) (w:World) (hA:LibA N l a c LB NB SB cnt w) (hmo:Mod (fun _=>OldB N) w m ph) (hv:v<m.vers.length) (hvl:m.vers.length<=10000) (hq:q<l.length) (hll:l.length<=100000) (hk:m.vers[v].kd=10\/m.vers[v].kd=11) (hql:l[q].vers.length<=10000)
   (h0:w.cell? ⟨B0,4,none⟩=some (.slice ph.a4 m.vers.length ph.c4)) (h1:w.cell? ⟨B1,0,none⟩=some (.pointer (some ⟨LB,0,none⟩))) (h2:w.cell? ⟨B2,0,none⟩=some (.int .i64 q)) (hB0:B0<w.heap.size) (hB1:B1<w.heap.size) (hB2:B2<w.heap.size) :
   Calls Tryz.prog 83 #[.int .i64 v,.pointer (some ⟨B0,0,none⟩),.pointer (some ⟨B1,0,none⟩),.pointer (some ⟨B2,0,none⟩)] w fun e w'=>e=.returned (.bool !(bnd m.vers[v] l[q]).isSome)/\Bl w w':=by
 have hvI:(v:Int)<(m.vers.length:Int):=by omega
 have hv0:(0:Int)<=(v:Int):=by omega
 have hqI:(q:Int)<(l.length:Int):=by omega
 have hq0:(0:Int)<=(q:Int):=by omega
 obtain ⟨b1,o1,ea,hb1,pq,hmq,r0,r1,r2,r3,r4,r5⟩:=hA.lib.get hq
 obtain ⟨b2,o2,e2,hb2,dv,hdv,s0,s1,s2,s3,s4,s5,s6,s7⟩:=hmo.vers.get hv
 obtain ⟨da,dc,rfl⟩:=hdv.len
 subst ea
 rw [e2] at h0
 have hc0:=hA.c0
 have hlb:=hA.lb
 obtain ⟨y,hy⟩:=ex2 (m.vers[v])
 obtain ⟨x,hx⟩:=ex2 (l[q])
 rw [hy] at s0 s1 s2 s3 s4 s5 s6 s7 hk |-
 rw [hx] at r0 r1 r2 r3 r4 r5 hmq hql |-
 have HN:=hid (bnd_neg y x)
 have HC:=hid fun (wx:World) (g:Bl w wx)=>bound_any y da dc x pq wx (hmq.keptN (g.mono hA.nl)) hk hql
 unfold verA mdV at HC
 have hlo:b1<w.heap.size/\b2<w.heap.size:=⟨hb1,hb2⟩
 have HS:Hid (∀ W',Bl w W'->W'.cell? ⟨B0,4,none⟩=some (.slice (some ⟨b2,o2,none⟩) m.vers.length ph.c4)/\W'.cell? ⟨B1,0,none⟩=some (.pointer (some ⟨LB,0,none⟩))/\W'.cell? ⟨B2,0,none⟩=some (.int .i64 q)/\W'.cell? ⟨LB,0,none⟩=some (.slice (some ⟨b1,o1,none⟩) l.length c) /\
     (W'.cell? ⟨b2,o2+v * 8,none⟩=some (.string y.nm)/\W'.cell? ⟨b2,o2+v * 8+1,none⟩=some (.int .u8 y.kd)/\W'.cell? ⟨b2,o2+v * 8+2,none⟩=some (.int .i64 y.rg)/\W'.cell? ⟨b2,o2+v * 8+3,none⟩=some (.int .i64 y.ofv)/\W'.cell? ⟨b2,o2+v * 8+4,none⟩=some (.string y.en)/\W'.cell? ⟨b2,o2+v * 8+5,none⟩=some (.string y.ex)/\W'.cell? ⟨b2,o2+v * 8+6,none⟩=some (.slice da y.df.length dc)/\W'.cell? ⟨b2,o2+v * 8+7,none⟩=some (.string y.sb)) /\
     (W'.cell? ⟨b1,o1+q * 6,none⟩=some (.string x.nm)/\W'.cell? ⟨b1,o1+q * 6+1,none⟩=some (.slice pq.a1 x.vars.length pq.c1)/\W'.cell? ⟨b1,o1+q * 6+2,none⟩=some (.slice pq.a2 x.evs.length pq.c2)/\W'.cell? ⟨b1,o1+q * 6+3,none⟩=some (.slice pq.a3 x.regs.length pq.c3)/\W'.cell? ⟨b1,o1+q * 6+4,none⟩=some (.slice pq.a4 x.vers.length pq.c4)/\W'.cell? ⟨b1,o1+q * 6+5,none⟩=some (.slice pq.a5 x.trns.length pq.c5))):=hid fun W' g =>
   have k:∀ b o u,b<w.heap.size->w.cell? ⟨b,o,none⟩=some u->W'.cell? ⟨b,o,none⟩=some u:=fun b o u hb h=>(g.cell (p:=⟨b,o,none⟩) hb).trans h
   ⟨k _ _ _ hB0 h0,k _ _ _ hB1 h1,k _ _ _ hB2 h2,k _ _ _ hlb hc0,⟨k _ _ _ hb2 s0,k _ _ _ hb2 s1,k _ _ _ hb2 s2,k _ _ _ hb2 s3,k _ _ _ hb2 s4,k _ _ _ hb2 s5,k _ _ _ hb2 s6,k _ _ _ hb2 s7⟩,⟨k _ _ _ hb1 r0,k _ _ _ hb1 r1,k _ _ _ hb1 r2,k _ _ _ hb1 r3,k _ _ _ hb1 r4,k _ _ _ hb1 r5⟩⟩
 have hB:Bl w w:=Below.refl _ _
 clear hA hmo hdv hmq h0 h1 h2 hc0 r0 r1 r2 r3 r4 r5 s0 s1 s2 s3 s4 s5 s6 s7 hy hx hk hlo hlb e2
 go_enter Tryz.func83,Tryz.ntmps83
 go_upto_region 1 with fail
 refine wp_region_any (by kernel_rfl) ?_
 change wpAny _ _ _ _ _ _ _ (World.drew _)
 refine hld HS.o (hB.drew) (fun hHeld=>?_)
 refine tk 0 rfl ?_
 refine tk 1 rfl ?_
 refine tk 2 rfl ?_
 refine tk 3 rfl ?_
 refine tk 4 rfl ?_
 refine tk 5 rfl ?_
 refine tk 6 rfl ?_
 refine tk 7 rfl ?_
 refine tk 8 rfl ?_
 refine tk 9 rfl ?_
 refine tk 10 rfl ?_
 refine tk 11 rfl ?_
 refine rd1 12 (fun K hK=>?_)
 (go_simp;(with_reducible refine (HC.o _ hB.drew).mono ?_);rintro e w9 ⟨rfl,g9⟩;have hB9:Bl w w9:=hB.drew.trans (g9.mono hB.drew.size);go_wp2_with fail)
 refine nx hK ?_ (fun hH1=>?_)
 (first | exact HS.o _ hB.drew | exact HS.o _ (by assumption))
 clear hK K hHeld
 refine tk 13 rfl ?_
 refine tk 14 rfl ?_
 refine dn ?_
 rotate_left
 all_goals
   go_wp2_with fail
   go_ret
   exact ⟨ret_bool (by rw [<- HN.o]),by assumption⟩
theorem findTt_any (P:Int->Bool) (l:List Int) (v:Value) (B0 B1 B2:Nat) (w:World) (h:RowIn w v l) (hl:l.length<=100000)
   (hK:∀ wx,Bl w wx->∀ x ∈ l,Calls Tryz.prog 83 #[.int .i64 x,.pointer (some (.mk B0 0 none)),.pointer (some (.mk B1 0 none)),.pointer (some (.mk B2 0 none))] wx fun e w'=>e=.returned (.bool (P x))/\Bl wx w') :
   Calls Tryz.prog 120 #[v,.func (.func 83) #[] #[.pointer (some (.mk B0 0 none)),.pointer (some (.mk B1 0 none)),.pointer (some (.mk B2 0 none))]] w (IdxQE P l w):=by
 have HK:=hid hK
 have HR:=hid (fun (wx:World) (g:Bl w wx)=>(h.below g).len)
 obtain ⟨a,c,rfl,hc,_⟩:=h.len
 obtain ⟨n,hn⟩:=ex2 l.length
 have HN:=hid hn
 rw [hn] at hl hc |-
 clear h hK hn
 go_enter Tryz.func120,Tryz.ntmps120
 go_wp2_with fail
 go_loopw [8] (fun i wr=>∃ k':Nat,k'<=n/\i=.int .i64 k'/\Bl w wr/\∀ j (hj:j<l.length),j<k'->P l[j]=false) (fun i _=>n - (intOf i).toNat)
 case atStart=>exact ⟨0,by omega,rfl,Below.refl _ _,fun j _ hj=>by omega⟩
 case round =>
  obtain ⟨wo,rfl⟩:=ex1 wr
  obtain ⟨i,hi,rfl,hb,hno⟩:=hrel
  have HB:=hid hb
  have HNo:=hid hno
  clear hb hno
  by_cases hlt:i<n
  . have hil:i<l.length:=by rw [HN.o];exact hlt
    obtain ⟨a',c',e,_,q⟩:=HR.o wo HB.o
    obtain ⟨b1,o1,ea,hbl,hcl⟩:=q i hil
    simp only [Value.slice.injEq] at e
    obtain ⟨rfl,e',rfl⟩:=e
    clear e'
    subst ea
    have hI:(i:Int)<(n:Int):=by omega
    have hI0:(0:Int)<=(i:Int):=by omega
    have HKv:=hid (HK.o wo HB.o (l[i]'hil) (List.getElem_mem hil))
    have HS:Hid (∀ b,P (l[i]'hil)=b->(b=true->∃ k:Nat,∃ hk:k<l.length,(i:Int)=k/\P l[k]=true/\∀ j (hj:j<l.length),j<k->P l[j]=false)/\(b=false->∀ j (hj:j<l.length),j<i+1->P l[j]=false)):=fun b hb=>⟨fun ht=>⟨i,hil,rfl,by rw [hb,ht],HNo.o⟩,fun hf j hj hji=>by
      by_cases e:j=i
      . subst e;rw [hb,hf]
      . exact HNo.o j hj (by omega)⟩
    obtain ⟨y,hy⟩:=ex2 (l[i]'hil)
    rw [hy] at hcl HKv
    obtain ⟨b,hb⟩:=ex2 (P y)
    rw [hb] at HKv
    have HSb:=hid (HS.o b (by rw [hy];exact hb))
    clear q hb HS hy
    cases b with
    | true =>
     go_wp2_with fail
     (with_reducible refine (HKv.o).mono ?_)
     rintro e w5 ⟨rfl,g5⟩
     go_wp2_with fail
     go_ret
     exact ⟨_,rfl,.inr (HSb.o.1 (by trivial)),below_chE HB.o g5⟩
    | false =>
     go_wp2_with fail
     (with_reducible refine (HKv.o).mono ?_)
     rintro e w5 ⟨rfl,g5⟩
     go_wp2_with fail
     go_roundw
     case rel=>exact ⟨i+1,by omega,by go_num,below_chE HB.o g5,HSb.o.2 (by trivial)⟩
     case measure=>simp [intOf] <;> omega
  . have hA:Hid (∀ j (hj:j<l.length),P l[j]=false):=hid fun j hj=>HNo.o j hj (by have:=HN.o;omega)
    go_wp2_with fail
    go_ret
    exact ⟨-1,rfl,.inl ⟨rfl,hA.o⟩,HB.o⟩
theorem hasTt_any (P:Int->Bool) (l:List Int) (v:Value) (B0 B1 B2:Nat) (w:World) (h:RowIn w v l) (hl:l.length<=100000)
   (hK:∀ wx,Bl w wx->∀ x ∈ l,Calls Tryz.prog 83 #[.int .i64 x,.pointer (some (.mk B0 0 none)),.pointer (some (.mk B1 0 none)),.pointer (some (.mk B2 0 none))] wx fun e w'=>e=.returned (.bool (P x))/\Bl wx w') :
   Calls Tryz.prog 82 #[v,.func (.func 83) #[] #[.pointer (some (.mk B0 0 none)),.pointer (some (.mk B1 0 none)),.pointer (some (.mk B2 0 none))]] w fun e w'=>e=.returned (.bool (l.any P))/\Bl w w':=by
 have HC:=hid (findTt_any P l v B0 B1 B2 w h hl hK)
 clear h hK
 go_enter Tryz.func82,Tryz.ntmps82
 go_wp2_with ((with_reducible refine (HC.o).mono ?_);rintro e w' ⟨i,rfl,hi,hb⟩)
 go_ret
 refine ⟨?_,hb⟩
 rcases hi with ⟨rfl,hno⟩ | ⟨k,hk,rfl,hp,_⟩
 . rw [any_noE hno];rfl
 . rw [any_yesE hk hp];simp
theorem anyN (f:Int->Bool):∀ l:List Int,(!(l.any fun v=>!f v))=l.all f
 | []=>rfl
 | x :: t=>by simp only [List.any_cons,List.all_cons,<- anyN f t,Bool.not_or,Bool.not_not]
theorem pts_mem {m:MdlD} {s x:Int} (h:x ∈ ptsM m s):∃ v,∃ hv:v<m.vers.length,x=(v:Int)/\m.vers[v].ofv=s/\verG m x=m.vers[v]:=by
 obtain ⟨v,hv,rfl,e⟩:=(sel_mem _ _ _).1 h
 refine ⟨v,hv,rfl,by simpa using e,?_⟩
 unfold verG
 simp [hv]
theorem tied1_any (N:Nat) (l:List MdlD) (a:Option Addr) (c LB NB SB cnt:Nat) (m:MdlD) (ph:Ph) (s:Nat) (q:Int) (B0 B1:Nat) (w:World) (hA:LibA N l a c LB NB SB cnt w) (hmo:Mod (fun _=>OldB N) w m ph) (hvl:m.vers.length<=10000) (hq:q=-1\/∃ k:Nat,q=k/\k<l.length) (hll:l.length<=100000) (hk:∀ v (h:v<m.vers.length),m.vers[v].ofv=s->m.vers[v].kd=10\/m.vers[v].kd=11) (hql:∀ x ∈ l,x.vers.length<=10000)
   (hb:Box w B0 (.string m.nm) (.slice ph.a1 m.vars.length ph.c1) (.slice ph.a2 m.evs.length ph.c2) (.slice ph.a3 m.regs.length ph.c3) (.slice ph.a4 m.vers.length ph.c4) (.slice ph.a5 m.trns.length ph.c5)) (h1:w.cell? ⟨B1,0,none⟩=some (.pointer (some ⟨LB,0,none⟩))) (hB1:B1<w.heap.size) :
   Calls Tryz.prog 81 #[.int .i64 s,.int .i64 q,.pointer (some ⟨B0,0,none⟩),.pointer (some ⟨B1,0,none⟩)] w fun e w'=>e=.returned (.bool (decide (0<=q) && (ptsM m s).all fun p=>(bnd (verG m p) (l.getD q.toNat m)).isSome))/\Bl w w':=by
 have HP:=hid fun (wx:World) (g:Bl w wx)=>points_any m ph s wx (hmo.keptN (g.mono hA.nl)) hvl
 have HE:Hid (∀ p x,bndI p x<0->bndI p x<0):=hid fun _ _ h=>h
 have hlp:(ptsM m s).length<=100000:=by have:=sel_len (fun x:VerD=>x.ofv == (s:Int)) m.vers;unfold ptsM;omega
 have HLP:=hid hlp
 clear hlp HE
 obtain ⟨x0,x1,x2,x3,x4,x5,_⟩:=hb
 rcases hq with rfl | ⟨k,rfl,hkl⟩
 . have hd:decide ((0:Int)<=-1)=false:=by decide
   rw [hd,Bool.false_and]
   clear hd HP HLP hA hmo
   go_enter Tryz.func81,Tryz.ntmps81
   go_wp2_with fail
   go_ret
   exact ⟨rfl,below_al1 w _⟩
 . have hd:decide ((0:Int)<=k)=true:=by simp
   have hB0:B0<w.heap.size:=by
     unfold World.cell? at x0
     rcases Nat.lt_or_ge B0 w.heap.size with h | h
     . exact h
     . simp [Array.getElem?_eq_none h] at x0
   have hgd:l.getD (k:Int).toNat m=l[k]:=by simp [hkl]
   rw [hd,Bool.true_and,hgd,<- anyN (fun p=>(bnd (verG m p) l[k]).isSome) (ptsM m s)]
   have HK:Hid (∀ wx,Bl w wx->w.heap.size<wx.heap.size->wx.cell? ⟨w.heap.size,0,none⟩=some (.int .i64 k)->∀ x ∈ ptsM m s,Calls Tryz.prog 83 #[.int .i64 x,.pointer (some ⟨B0,0,none⟩),.pointer (some ⟨B1,0,none⟩),.pointer (some ⟨w.heap.size,0,none⟩)] wx fun e w'=>e=.returned (.bool !(bnd (verG m x) l[k]).isSome)/\Bl wx w'):=hid fun wx g hz h2 x hx=>by
     obtain ⟨v,hv,rfl,ho,hg⟩:=pts_mem hx
     rw [hg]
     exact tied11_any N l a c LB NB SB cnt m ph v k B0 B1 w.heap.size wx (hA.below g) (hmo.keptN (g.mono hA.nl)) hv hvl hkl hll (hk v hv ho) (hql _ (List.getElem_mem hkl)) ((g.cell (p:=⟨B0,4,none⟩) hB0).trans x4) ((g.cell (p:=⟨B1,0,none⟩) hB1).trans h1) h2 (Nat.lt_of_lt_of_le hB0 g.size) (Nat.lt_of_lt_of_le hB1 g.size) hz
   have hk0:(0:Int)<=(k:Int):=by omega
   clear hd hA hmo hgd
   unfold mdV at HP
   go_enter Tryz.func81,Tryz.ntmps81
   go_upto_region 1 with fail
   have HB1:=hid (below_al1 w (.cells #[.int .i64 k] 3))
   have hC1:(w.alloc (.cells #[.int .i64 k] 3)).cell? ⟨w.heap.size,0,none⟩=some (.int .i64 k):=by
     unfold World.cell?;simp only [World.alloc_heap_new];rfl
   have hz1:(w.alloc (.cells #[.int .i64 k] 3)).heap.size=w.heap.size+1:=by simp
   generalize w.alloc (.cells #[.int .i64 k] 3)=W1 at *
   have g1:=HB1.o
   replace x0:=(g1.cell (p:=⟨B0,0,none⟩) hB0).trans x0
   replace x1:=(g1.cell (p:=⟨B0,1,none⟩) hB0).trans x1
   replace x2:=(g1.cell (p:=⟨B0,2,none⟩) hB0).trans x2
   replace x3:=(g1.cell (p:=⟨B0,3,none⟩) hB0).trans x3
   replace x4:=(g1.cell (p:=⟨B0,4,none⟩) hB0).trans x4
   replace x5:=(g1.cell (p:=⟨B0,5,none⟩) hB0).trans x5
   have HPW:=hid (HP.o W1 HB1.o)
   clear HP g1
   go_wp2_with fail
   (with_reducible refine (HPW.o).mono ?_)
   rintro e w2 ⟨v',rfl,hown,g2⟩
   have gw:=HB1.o.trans (g2.mono HB1.o.size)
   have hc2:=(g2.cell (p:=⟨w.heap.size,0,none⟩) (by show w.heap.size<_;omega)).trans hC1
   have hz2:w.heap.size<w2.heap.size:=by have:=g2.size;omega
   have HQ:=hid (hasTt_any (fun p=>!(bnd (verG m p) l[k]).isSome) (ptsM m s) v' B0 B1 w.heap.size w2 (RowIn.own hown) HLP.o fun wx g x hx=>HK.o wx (gw.trans (g.mono gw.size)) (Nat.lt_of_lt_of_le hz2 g.size) ((g.cell (p:=⟨w.heap.size,0,none⟩) hz2).trans hc2) x hx)
   have HGw:=hid gw
   clear HK HPW gw g2 hown hc2
   go_wp2_with fail
   (with_reducible refine (HQ.o).mono ?_)
   rintro e w3 ⟨rfl,g3⟩
   go_wp2_with fail
   go_ret
   exact ⟨by simp,HGw.o.trans (g3.mono HGw.o.size)⟩
theorem tiedV_is {l:List MdlD} {m:MdlD} {k:Nat} {x:VerD} (hx:0<x.sb.size):tiedV l m k x=(decide (0<=fndI l x.sb) && (ptsM m k).all fun p=>(bnd (verG m p) (l.getD (fndI l x.sb).toNat m)).isSome):=by
 unfold tiedV fndI
 rw [show (x.sb.size == 0)=false from beq_eq_false_iff_ne.2 (by omega),Bool.false_or]
 cases fnd l x.sb with
 | none=>rfl
 | some n=>simp
theorem tied_any (N:Nat) (l:List MdlD) (a:Option Addr) (c LB NB SB cnt n:Nat) (w:World) (hA:LibA N l a c LB NB SB cnt w) (hn:n<l.length) (hll:l.length<=100000) (hql:∀ x ∈ l,x.vers.length<=10000) (hs:∀ x ∈ l[n].vers,x.sb.size<=140737488355328) (hk:∀ v (h:v<l[n].vers.length),0<=l[n].vers[v].ofv->l[n].vers[v].kd=10\/l[n].vers[v].kd=11) :
   Calls Tryz.prog 46 #[.pointer (some ⟨LB,0,none⟩),.int .i64 n] w fun e w'=>e=.returned (.bool (tiedM l l[n]))/\Bl w w':=by
 obtain ⟨m,hm⟩:=ex2 (l[n])
 have hvl:m.vers.length<=10000:=by rw [<- hm];exact hql _ (List.getElem_mem hn)
 rw [hm] at hs hk |-
 obtain ⟨b1,o1,ea,hb1,ph,hmo,r0,r1,r2,r3,r4,r5⟩:=hA.lib.get hn
 rw [hm] at hmo r0 r1 r2 r3 r4 r5
 subst ea
 have hc0:=hA.c0
 have hlb:=hA.lb
 have hnI:(n:Int)<(l.length:Int):=by omega
 have hn0:(0:Int)<=(n:Int):=by omega
 have HU:Hid (∀ W1,Bl w W1->w.heap.size+1<W1.heap.size->Box W1 (w.heap.size+1) (.string m.nm) (.slice ph.a1 m.vars.length ph.c1) (.slice ph.a2 m.evs.length ph.c2) (.slice ph.a3 m.regs.length ph.c3) (.slice ph.a4 m.vers.length ph.c4) (.slice ph.a5 m.trns.length ph.c5)->W1.cell? ⟨w.heap.size,0,none⟩=some (.pointer (some ⟨LB,0,none⟩)) ->
     Calls Tryz.prog 51 #[.pointer (some ⟨LB,0,none⟩),.int .i64 n,.func (.func 81) #[] #[.pointer (some ⟨w.heap.size+1,0,none⟩),.pointer (some ⟨w.heap.size,0,none⟩)]] W1 fun e w'=>e=.returned (.bool (tiedM l m))/\Bl W1 w'):=hid fun W1 g hz hbx hcx=>by
   have hA1:=hA.below g
   have hm1:=hmo.keptN (g.mono hA.nl)
   refine (usesTi_any N l (some ⟨b1,o1,none⟩) c LB NB SB cnt m n (w.heap.size+1) w.heap.size W1 (fun k wr=>Bl W1 wr/\∀ j (h:j<m.vers.length),j<k->tiedV l m j m.vers[j]=true) (fun wr=>Bl W1 wr/\tiedM l m=false) hn hm hll hvl hs ?_ ?_ ?_ ?_ ?_).mono ?_
   . rintro k wr ⟨hb,_⟩;exact ⟨hA1.below hb,hb.mono hA1.nl⟩
   . rintro k wr wx ⟨hb,hp⟩ hx;exact ⟨hb.trans (hx.mono hb.size),hp⟩
   . rintro k wr hkl ⟨hb,hp⟩ hz0
     refine ⟨hb,fun j hj hjk=>?_⟩
     rcases Nat.lt_succ_iff_lt_or_eq.1 hjk with h | rfl
     . exact hp j hj h
     . unfold tiedV;simp [hz0]
   . rintro k wr hkl ⟨hb,hp⟩ hz0
     have hbx2:Box wr (w.heap.size+1) (.string m.nm) (.slice ph.a1 m.vars.length ph.c1) (.slice ph.a2 m.evs.length ph.c2) (.slice ph.a3 m.regs.length ph.c3) (.slice ph.a4 m.vers.length ph.c4) (.slice ph.a5 m.trns.length ph.c5):=hbx.below hb hz
     have hqd:fndI l m.vers[k].sb=-1\/∃ q:Nat,fndI l m.vers[k].sb=q/\q<l.length:=by
       cases hf:fnd l m.vers[k].sb with
       | none=>exact .inl (fndI_none hf)
       | some q =>
        obtain ⟨hq,_⟩:=fnd_some hf
        exact .inr ⟨q,fndI_some hf,hq⟩
     refine (tied1_any N l (some ⟨b1,o1,none⟩) c LB NB SB cnt m ph k (fndI l m.vers[k].sb) (w.heap.size+1) w.heap.size wr (hA1.below hb) (hm1.keptN (hb.mono hA1.nl)) hvl hqd hll (fun v h e=>hk v h (by rw [e];omega)) hql hbx2 ((hb.cell (p:=⟨w.heap.size,0,none⟩) (by show w.heap.size<_;omega)).trans hcx) (by have:=hb.size;omega)).mono ?_
     rintro e w' ⟨rfl,g'⟩
     rw [<- tiedV_is hz0]
     refine ⟨_,rfl,fun ht=>⟨hb.trans (g'.mono hb.size),fun j hj hjk=>?_⟩,fun hf=>⟨hb.trans (g'.mono hb.size),?_⟩⟩
     . rcases Nat.lt_succ_iff_lt_or_eq.1 hjk with h | rfl
       . exact hp j hj h
       . exact ht
     . rcases hT:tiedM l m with _ | _
       . rfl
       . have:=tiedF_iff.1 hT k hkl
         rw [Nat.zero_add,hf] at this;cases this
   . exact ⟨Below.refl _ _,fun j _ h=>by omega⟩
   . rintro e w' ⟨b,rfl,ht,hf⟩
     cases b with
     | true =>
      have:tiedM l m=true:=tiedF_iff.2 fun k hkl=>by rw [Nat.zero_add];exact (ht rfl).2 k hkl hkl
      exact ⟨by rw [this],(ht rfl).1⟩
     | false=>exact ⟨by rw [(hf rfl).2],(hf rfl).1⟩
 have HB:=hid (boxT (w.alloc (.cells #[.pointer (some ⟨LB,0,none⟩)] 72)) m ph 42)
 clear hA hmo hs hk hql
 go_enter Tryz.func46,Tryz.ntmps46
 go_upto_region 2 with fail
 have HB2:=hid (below_al2 w (.cells #[.pointer (some ⟨LB,0,none⟩)] 72) (.cells #[.string m.nm,.slice ph.a1 m.vars.length ph.c1,.slice ph.a2 m.evs.length ph.c2,.slice ph.a3 m.regs.length ph.c3,.slice ph.a4 m.vers.length ph.c4,.slice ph.a5 m.trns.length ph.c5] 42))
 have hC:=(cells2 w #[.pointer (some ⟨LB,0,none⟩)] #[.string m.nm,.slice ph.a1 m.vars.length ph.c1,.slice ph.a2 m.evs.length ph.c2,.slice ph.a3 m.regs.length ph.c3,.slice ph.a4 m.vers.length ph.c4,.slice ph.a5 m.trns.length ph.c5] 72 42 0).1
 have hz:w.heap.size+1<((w.alloc (.cells #[.pointer (some ⟨LB,0,none⟩)] 72)).alloc (.cells #[.string m.nm,.slice ph.a1 m.vars.length ph.c1,.slice ph.a2 m.evs.length ph.c2,.slice ph.a3 m.regs.length ph.c3,.slice ph.a4 m.vers.length ph.c4,.slice ph.a5 m.trns.length ph.c5] 42)).heap.size:=by simp
 have hB:=HB.o
 rw [World.size_alloc] at hB
 generalize (w.alloc (.cells #[.pointer (some ⟨LB,0,none⟩)] 72)).alloc (.cells #[.string m.nm,.slice ph.a1 m.vars.length ph.c1,.slice ph.a2 m.evs.length ph.c2,.slice ph.a3 m.regs.length ph.c3,.slice ph.a4 m.vers.length ph.c4,.slice ph.a5 m.trns.length ph.c5] 42)=W1 at *
 have hC1:W1.cell? ⟨w.heap.size,0,none⟩=some (.pointer (some ⟨LB,0,none⟩)):=hC
 have HUW:=hid (HU.o W1 HB2.o hz hB hC1)
 clear HU HB hC hB
 go_wp2_with fail
 (with_reducible refine (HUW.o).mono ?_)
 rintro e w2 ⟨rfl,g2⟩
 go_wp2_with fail
 go_ret
 exact ⟨rfl,HB2.o.trans (g2.mono HB2.o.size)⟩
end Go.Proofs
