/- Walks: Orthogonal. -/
import Derived.Test.YtiimoclbmaggjaaGreatDoorZIxGI
namespace Go.Proofs
open Go.RowKit Go.Lx Go.Md Go.Shelf Go.Rfu Go.Rgi Go.BigFrame
open Lib(hid)
open Go.Proofs.Tryz
set_option maxRecDepth 100000
set_option maxHeartbeats 0
set_option linter.unusedVariables false
attribute [local go_sem] Oper.semAt_some
attribute [local go_sem] Oper.semAt_some
theorem zcD {B IB:Nat} {m:MdlD} {w:World} (h:IdxAt B m IB w) (h0:riM m=(0,0,0)) (v r:Int) (B4 B11:Nat) (h4:w.cell? ⟨B4,0,none⟩=some (.pointer (some ⟨IB,0,none⟩))) (h11:w.cell? ⟨B11,0,none⟩=some (.int .i64 r)) :
   Calls prog 97 #[.int .i64 v,.pointer (some ⟨B4,0,none⟩),.pointer (some ⟨B11,0,none⟩)] w fun e w'=>e=.returned (.bool (!inM m v r))/\Bl w w':=by
 have HC:=hid (zdx h v r h0);clear h h0;go_enter func97,ntmps97;go_wp2_with ((with_reducible refine (HC.o).mono ?_);rintro e w' ⟨rfl,hb⟩);go_ret;exact ⟨rfl,hb⟩
def IdxC (m:MdlD) (r:Int) (all:List Int) (w:World) (e:Ending) (w':World):Prop:=∃ i:Int,e=.returned (.int .i64 i)/\decide (0<=i)=all.any (fun v=>!inM m v r)/\Bl w w'
theorem zdt {B IB N:Nat} {m:MdlD} {w:World} (h:IdxAt B m IB w) (h0:riM m=(0,0,0)) (all:List Int) (av:Value) (r:Int) (B4 B11:Nat) (h4:w.cell? ⟨B4,0,none⟩=some (.pointer (some ⟨IB,0,none⟩))) (h11:w.cell? ⟨B11,0,none⟩=some (.int .i64 r))
   (ho:w.ownsRow N 3 1 av all.length (nums all)) (hl:all.length<=100000) (hl1:1<=all.length) :
   Calls prog 171 #[av,.func (.func 97) #[] #[.pointer (some ⟨B4,0,none⟩),.pointer (some ⟨B11,0,none⟩)]] w (IdxC m r all w):=by
 obtain ⟨g,c,rfl⟩:∃ g c,av=.slice (some ⟨g,0,none⟩) all.length c:=by
   rcases ho.2 with ⟨_,e2⟩ | ⟨g,c,_,e,_⟩
   . omega
   . exact ⟨_,_,e⟩
 have hcap:all.length<=c:=by
   rcases ho.2 with ⟨e,_⟩ | ⟨g',c',_,e,_,_,hc,_⟩
   . cases e
   . simp only [Value.slice.injEq] at e;omega
 have hg4:=World.block_lt_of_cell? w _ h4;have hg11:=World.block_lt_of_cell? w _ h11;have hgg:=(ho.lt g rfl).2;have HC:Hid (∀ wx,Bl w wx->∀ v,_):=fun wx g' v=>zcD (h.grown g') h0 v r B4 B11 ((g'.cell (p:=⟨B4,0,none⟩) hg4).trans h4) ((g'.cell (p:=⟨B11,0,none⟩) hg11).trans h11)
 have HE:Hid (∀ wx,Bl w wx->∀ k (hk:k<all.length),wx.cell? ⟨g,k,none⟩=some (.int .i64 all[k])):=fun wx g' k hk =>
   (g'.cell (p:=⟨g,k,none⟩) hgg).trans ((ho.cellAt k (by omega)).trans (by simp [nums,hk]))
 clear ho h h0 h4 h11 hg4 hg11 hgg;obtain ⟨n,hn⟩:=ex2 all.length;have HN:=hid hn;rw [hn] at hcap hl hl1 |-;clear hn;go_enter func171,ntmps171
 go_wp2
 go_loopw [8] (fun i wr=>∃ k:Nat,k<=n/\i=.int .i64 k/\Bl w wr/\∀ j (hj:j<all.length),j<k->(!inM m all[j] r)=false) (fun i _=>n - (intOf i).toNat)
 case atStart=>exact ⟨0,by omega,rfl,Below.refl _ _,fun j _ hj=>by omega⟩
 case round =>
  obtain ⟨wo,rfl⟩:=ex1 wr;obtain ⟨k,hk,rfl,hb,hno⟩:=hrel;have HB:=hid hb;have HNo:=hid hno;clear hb hno
  by_cases hlt:k<n
  . have hk':k<all.length:=by rw [HN.o];exact hlt
    have e1:=HE.o wo HB.o k hk';have hI:(k:Int)<(n:Int):=by omega
    have hI0:(0:Int)<=(k:Int):=by omega
    have HCk:=hid (HC.o wo HB.o all[k])
    have HF:Hid (∀ b,(!inM m all[k] r)=b->(b=false->∀ j (hj:j<all.length),j<k+1->(!inM m all[j] r)=false)/\(b=true->all.any (fun v=>!inM m v r)=true)):=fun b hb=>⟨fun hf j hj hjk=>by
        by_cases e:j=k
        . subst e;rw [hb,hf]
        . exact HNo.o j hj (by omega),fun ht=>List.any_eq_true.2 ⟨all[k],List.getElem_mem hk',by rw [hb,ht]⟩⟩
    obtain ⟨x,hx⟩:=ex2 (all[k]);rw [hx] at e1 HCk HF;clear hx
    cases hd:(!inM m x r) with
    | true =>
     have hT:=hid ((HF.o true hd).2 rfl);rw [hd] at HCk;clear HF hd HC HE HNo;go_wp2_with ((with_reducible refine (HCk.o).mono ?_);rintro e w2 ⟨rfl,hb2⟩);go_ret;exact ⟨k,rfl,by rw [hT.o];simp,HB.o.trans (hb2.mono HB.o.size)⟩
    | false =>
     have hF:=hid ((HF.o false hd).1 rfl);rw [hd] at HCk;clear HF hd HC HE HNo;go_wp2_with ((with_reducible refine (HCk.o).mono ?_);rintro e w2 ⟨rfl,hb2⟩);go_roundw
     case rel=>exact ⟨k+1,by omega,by go_num,HB.o.trans (hb2.mono HB.o.size),hF.o⟩
     case measure=>simp [intOf] <;> omega
  . have hA:Hid (all.any (fun v=>!inM m v r)=false):=hid (by
      rw [List.any_eq_false];intro x hx;obtain ⟨j,hj,rfl⟩:=List.getElem_of_mem hx;rw [HNo.o j hj (by have:=HN.o;omega)];simp)
    clear HC HE HNo
    go_wp2
    go_ret;exact ⟨-1,rfl,by rw [hA.o];rfl,HB.o⟩
theorem zeq (f:Int->Bool):∀ l:List Int,(l.any fun v=>!f v)=!(l.all f)
 | []=>rfl
 | x :: t=>by simp only [List.any_cons,List.all_cons,zeq f t,Bool.not_and]
def AnyC (m:MdlD) (r:Int) (all:List Int) (w:World) (e:Ending) (w':World):Prop:=e=.returned (.bool (!(all.all fun v=>inM m v r)))/\Bl w w'
theorem zaW {B IB N:Nat} {m:MdlD} {w:World} (h:IdxAt B m IB w) (h0:riM m=(0,0,0)) (all:List Int) (av:Value) (r:Int) (B4 B11:Nat) (h4:w.cell? ⟨B4,0,none⟩=some (.pointer (some ⟨IB,0,none⟩))) (h11:w.cell? ⟨B11,0,none⟩=some (.int .i64 r))
   (ho:w.ownsRow N 3 1 av all.length (nums all)) (hl:all.length<=100000) (hl1:1<=all.length) :
   Calls prog 96 #[av,.func (.func 97) #[] #[.pointer (some ⟨B4,0,none⟩),.pointer (some ⟨B11,0,none⟩)]] w (AnyC m r all w):=by
 have HC:=hid (zdt h h0 all av r B4 B11 h4 h11 ho hl hl1);clear h h0 ho h4 h11;go_enter func96,ntmps96;go_wp2_with ((with_reducible refine (HC.o).mono ?_);rintro e w' ⟨i,rfl,hi,hb⟩);go_ret;exact ⟨by rw [<- zeq,<- hi];rfl,hb⟩
theorem yI (w:World) (v0 v1:Value) (T0 T1:TypeId):((w.alloc (.cells #[v0] T0)).alloc (.cells #[v1] T1)).cell? ⟨w.heap.size,0,none⟩=some v0/\((w.alloc (.cells #[v0] T0)).alloc (.cells #[v1] T1)).cell? ⟨w.heap.size+1,0,none⟩=some v1/\((w.alloc (.cells #[v0] T0)).alloc (.cells #[v1] T1)).frozen? ⟨w.heap.size+1,0,none⟩=false/\((w.alloc (.cells #[v0] T0)).alloc (.cells #[v1] T1)).heap.size=w.heap.size+1+1:=by
 have h1:=World.alloc_heap_new (w.alloc (.cells #[v0] T0)) (.cells #[v1] T1);rw [World.size_alloc] at h1;refine ⟨by simp,?_,?_,by simp⟩
 . unfold World.cell?;simp only [h1];rfl
 . unfold World.frozen?;simp only [h1];rfl
theorem zeY {B IB:Nat} {m:MdlD} {w:World} (h:IdxAt B m IB w) (a b:Int) (mv:Value) (all:List Int) (ha:hasV m a=false) :
   Calls prog 28 #[.pointer (some ⟨IB,0,none⟩),.int .i64 a,.int .i64 b,mv] w fun e w'=>e=.returned (.int .i64 (commonM m a all))/\Bl w w':=by
 have HTa:=hid (fun (wx:World) (g:Bl w wx)=>qe (h.grown g) a);have HB3:Hid (Bl w ((w.alloc (.cells #[.pointer (some ⟨IB,0,none⟩)] 45)).alloc (.cells #[.int .i64 0] 3))):=zq w _ _;have HB4:Hid (Bl w ((w.alloc (.cells #[.pointer (some ⟨IB,0,none⟩)] 45)).alloc (.cells #[.int .i64 (-1)] 3))):=zq w _ _;obtain ⟨c4,c8,f8,z3e⟩:=yI w (.pointer (some ⟨IB,0,none⟩)) (.int .i64 0) 45 3;obtain ⟨_,c9,_,_⟩:=yI w (.pointer (some ⟨IB,0,none⟩)) (.int .i64 (-1)) 45 3;have hp:commonM m a all=-1:=by unfold commonM;rw [ha];rfl
 rw [hp];rw [ha] at HTa;clear hp z3e h ha;refine zG func28 rfl ?_;simp only [ntmps28,List.size_toArray,List.length_cons,List.length_nil,Nat.reduceAdd,Nat.reduceSub,Array.replicate_succ,Array.replicate_zero,List.push_toArray,List.append_toArray,List.nil_append,List.cons_append];go_wp2_with ((with_reducible refine (HTa.o _ HB3.o).mono ?_);rintro e w' ⟨rfl,rfl⟩);refine yl (ds:=[]) (n0:=0) (Marked.nil _ _) (v:=.int .i64 (-1)) ?_ ⟨rfl,HB4.o⟩
 simp [results,results28,go_sem,Rfu.shut]
def RowIn (w:World) (v:Value) (l:List Int):Prop:=(∃ a c,v=.slice a 0 c/\l=[])\/∃ b off c,v=.slice (some ⟨b,off,none⟩) l.length c/\l.length<=c/\b<w.heap.size/\∀ j u,(nums l)[j]? = some u->w.cell? ((⟨b,off,none⟩:Addr).add j)=some u
structure CmSt (IB:Nat) (b:Int) (l:List Int) (w W:World) (B9:Nat):Prop where
 bel:Bl w W
 c4:W.cell? ⟨w.heap.size,0,none⟩=some (.pointer (some ⟨IB,0,none⟩))
 c8:W.cell? ⟨w.heap.size+1,0,none⟩=some (.int .i64 0)
 f8:W.frozen? ⟨w.heap.size+1,0,none⟩=false
 lo:w.heap.size+1+1<=B9
 row:∃ v9,W.cell? ⟨B9,0,none⟩=some v9/\W.ownsRow (w.heap.size+1+1) 3 1 v9 (b :: l).length (nums (b :: l))
theorem zY {N T n:Nat} {w w':World} {v:Value} {xs:List Value} (h:w.ownsRow N T 1 v n xs) (g:Bl w w'):w'.ownsRow N T 1 v n xs:=by
 refine ⟨h.1,?_⟩
 rcases h.2 with h2 | ⟨b,cap,cur,e,hb,hg,r⟩
 . exact .inl h2
 . exact .inr ⟨b,cap,cur,e,hb,(g.block b (Array.getElem?_eq_some_iff.1 hg).1).trans hg,r⟩
def CutC (IB:Nat) (b:Int) (l:List Int) (w:World) (s9:Value) (W:World):Prop:=∃ B9,s9=.pointer (some ⟨B9,0,none⟩)/\CmSt IB b l w W B9
theorem zF {N T n:Nat} {w:World} {v:Value} {xs:List Value} (h:w.ownsRow N T 1 v n xs) (hn:0<n):∃ g c,v=.slice (some ⟨g,0,none⟩) n c:=by
 rcases h.2 with ⟨_,e⟩ | ⟨g,c,_,e,_⟩
 . omega
 . exact ⟨_,_,e⟩
theorem CmSt.made {IB:Nat} {b:Int} {l:List Int} {w w3 w1:World} {o:Obj} {v9:Value} (hB:Bl w w3) (c4:w3.cell? ⟨w.heap.size,0,none⟩=some (.pointer (some ⟨IB,0,none⟩))) (c8:w3.cell? ⟨w.heap.size+1,0,none⟩=some (.int .i64 0)) (f8:w3.frozen? ⟨w.heap.size+1,0,none⟩=false) (hz:w3.heap.size=w.heap.size+1+1)
   (hg:(w3.alloc o).grownBy w1 (some w3.heap.size)) (ho:w1.ownsRow (w.heap.size+1+1) 3 1 v9 (b :: l).length (nums (b :: l))):CmSt IB b l w (w1.alloc (.cells #[v9] 31)) w1.heap.size:=by
 have h1:Bl w3 w1:=((Below.refl _ w3).alloc (Nat.le_refl _) o).grown hg (by simp) (fun k e=>by injection e with e;omega);have h2:Bl w3 (w1.alloc (.cells #[v9] 31)):=h1.alloc h1.size _;exact ⟨hB.trans (h2.mono hB.size),(h2.cell (p:=⟨w.heap.size,0,none⟩) (by simp only;omega)).trans c4,(h2.cell (p:=⟨w.heap.size+1,0,none⟩) (by simp only;omega)).trans c8,(h2.frozen (p:=⟨w.heap.size+1,0,none⟩) (by simp only;omega)).trans f8,by have:=h1.size;omega,v9,by simp,ho.alloc _⟩
theorem zdu {B IB:Nat} {m:MdlD} {w:World} (h:IdxAt B m IB w) (a:Nat) (b:Int) (mv:Value) (l:List Int) (hl:l.length<=90000) (hr:RowIn w mv l) (h0:riM m=(0,0,0)) (ha:a<m.zc.length) :
   Calls prog 28 #[.pointer (some ⟨IB,0,none⟩),.int .i64 a,.int .i64 b,mv] w fun e w'=>e=.returned (.int .i64 (commonM m a (b :: l)))/\Bl w w':=by
 have hva:hasV m (a:Int)=true:=by simp [hasV];omega
 have HTa:=hid (fun (wx:World) (g:Bl w wx)=>qe (h.grown g) (a:Int));have HI:=hid (fun (wx:World) (g:Bl w wx)=>h.grown g);have HB3:Hid (Bl w ((w.alloc (.cells #[.pointer (some ⟨IB,0,none⟩)] 45)).alloc (.cells #[.int .i64 0] 3))):=zq w _ _;obtain ⟨c4,c8,f8,z3e⟩:=yI w (.pointer (some ⟨IB,0,none⟩)) (.int .i64 0) 45 3;have Z3:=hid z3e;clear z3e;rw [hva] at HTa;have HD:Hid (∀ x,commonM m a (b :: l)=x↔(match (upsM m a).find? (fun p=>(b :: l).all fun v=>inM m v (rgM m p)) with | some p=>rgM m p | none=>-1)=x):=fun x=>by unfold commonM;rw [hva];exact Iff.rfl
 obtain ⟨iI,hiI,zI0,zI1,zI2⟩:=info_parts zS;have HRow:=hid hr;clear hva h hr;refine zG func28 rfl ?_;simp only [ntmps28,List.size_toArray,List.length_cons,List.length_nil,Nat.reduceAdd,Nat.reduceSub,Array.replicate_succ,Array.replicate_zero,List.push_toArray,List.append_toArray,List.nil_append,List.cons_append];let HText:Prop:=bodyPost prog Tryz.f28 (fun _ _=>True) .ret { tmps:=#[],defers:=[] } w;go_upto_region 3 with ((with_reducible refine (HTa.o _ HB3.o).mono ?_);rintro e w' ⟨rfl,rfl⟩);have hM:=fun (w1:World) (o:Obj) (v9:Value) hg ho=>CmSt.made (IB:=IB) (b:=b) (l:=l) (w1:=w1) (o:=o) (v9:=v9) HB3.o c4 c8 f8 Z3.o hg ho;have HM:=hid hM;clear hM c4 c8 f8;generalize (w.alloc (.cells #[.pointer (some ⟨IB,0,none⟩)] 45)).alloc (.cells #[.int .i64 0] 3)=w3 at *
 go_cut [9] (fun s9 W=>CutC IB b l w s9 W)
 case first =>
  have hz3:=Nat.le_of_eq Z3.o.symm;have hO1:=World.ownsRow_lit (base:=w.heap.size+1+1) (e:=3) (size:=1) w3 #[.int .i64 b] 1 hz3 (by unfold maxLen;omega) (by simp);have HO:=hid hO1;clear hO1;have hrow:=HRow.o;clear HRow HTa HI HD Z3
  have hsrc:(∃ mc,mv=.slice none 0 mc/\l=[])\/∃ ad mc,mv=.slice (some ad) l.length mc/\Hid (∀ j u,(nums l)[j]? = some u->(w3.alloc (.cells #[.int .i64 b] 3)).cell? (ad.add j)=some u):=by
    rcases hrow with ⟨am,mc,rfl,rfl⟩ | ⟨bm,om,mc,rfl,_,hab,hcs⟩
    . cases am with
      | none=>exact .inl ⟨mc,rfl,rfl⟩
      | some ad=>exact .inr ⟨ad,mc,rfl,hid (fun j u hj=>by simp [nums] at hj)⟩
    . exact .inr ⟨_,mc,rfl,fun j u hj=>Lib.cell?_alloc_some _ ((HB3.o.cell (p:=(⟨bm,om,none⟩:Addr).add j) (by have:((⟨bm,om,none⟩:Addr).add j).block=bm:=by { unfold Addr.add;split <;> rfl };omega)).trans (hcs j u hj))⟩
  rcases hsrc with ⟨mc,rfl,rfl⟩ | ⟨ad,mc,rfl,HC⟩
  . go_wp2_with fail
    go_meet
    have h9:=HM.o _ _ _ ⟨rfl,rfl,rfl,Nat.le_refl _,fun _ _ _=>rfl⟩ HO.o;rw [World.size_alloc] at h9;exact ⟨_,rfl,h9⟩
  . clear hrow
    have H1:Hid (∀ u ∈ nums l,u.oneCell'=true):=hid (by intro u hu;simp only [nums,List.mem_map] at hu;obtain ⟨x,_,rfl⟩:=hu;rfl);go_wp2_with (at_builtin;refine wpList_append_own _ rfl _ _ 31 rfl (w.heap.size+1+1) 3 iI _ 1 8 underlying31 hiI zI0 zI1 zI2 rfl (by decide) _ 1 _ rfl HO.o ad l.length mc (nums l) rfl (by simp) HC.o H1.o ?qc4 ?qc5 ?qc6 ?_)
    case qc4=>unfold maxLen;omega
    case qc5=>omega
    case qc6=>first | omega | (simp;omega)
    intro v' w1 hown hgrow hnil;obtain ⟨g,c,rfl⟩:=zF hown (by omega)
    have hown2:w1.ownsRow (w.heap.size+1+1) 3 1 (.slice (some ⟨g,0,none⟩) (1+l.length) c) (b :: l).length (nums (b :: l)):=by
      rw [show (b :: l).length=1+l.length by simp;omega];exact hown
    have HO2:=hid hown2;have HG2:=hid hgrow;clear hown hown2 hgrow hnil;go_wp2_with fail
    go_meet
    exact ⟨_,rfl,HM.o _ _ _ HG2.o HO2.o⟩
 case rest =>
  obtain ⟨w4,hw4,hcut⟩:∃ w4:World,w4=_/\CutC IB b l w _ w4:=⟨_,rfl,hcut⟩;subst hw4;obtain ⟨B9,rfl,hC⟩:=hcut;have hl2:=zR h0 ha;have hU:=zal (HI.o w4 hC.bel) h0 (v:=(a:Int)) (by omega) hl2.2;have HU0:=hid hU;have c4:=hC.c4;have HC0:=hid hC;have HI4:=hid (HI.o w4 hC.bel);clear hU hC hl2 HI HTa HM HRow HB3;go_wp2_with ((with_reducible refine (zb7 _ _ _).mono ?_);rintro e w' ⟨rfl,rfl⟩);have hU:=HU0.o;obtain ⟨_,_,_,z5e⟩:=zak w4 (some ⟨IB,0,none⟩) (a:Int);have hb45:Bl w4 ((w4.alloc (.cells #[.pointer (some ⟨IB,0,none⟩)] 45)).alloc (.cells #[.int .i64 (a:Int)] 3)):=zq w4 _ _;generalize (w4.alloc (.cells #[.pointer (some ⟨IB,0,none⟩)] 45)).alloc (.cells #[.int .i64 (a:Int)] 3)=w5 at *;have z5:=Nat.le_of_eq z5e.symm;have hv1:=hU.hv;have hend:=hU.end_;obtain ⟨PB,hat⟩:=hU.at;obtain ⟨PB2,hrd⟩:=hU.reads;have HAt:=hid hat;have HRd:=hid hrd;have HB45:=hid hb45;obtain ⟨v9,hc9,ho9⟩:=HC0.o.row;have hB9:=World.block_lt_of_cell? w4 _ hc9;have hlo9:=HC0.o.lo;have hz4:=HC0.o.bel.size;have hz41:=World.block_lt_of_cell? w4 _ HC0.o.c8;have HO9:=hid ho9;have c4:=(hb45.cell (p:=⟨w.heap.size,0,none⟩) (by simp only at hz41 |-;omega)).trans HC0.o.c4;have c8:=(hb45.cell (p:=⟨w.heap.size+1,0,none⟩) hz41).trans HC0.o.c8;have f8:=(hb45.frozen (p:=⟨w.heap.size+1,0,none⟩) hz41).trans HC0.o.f8;have c9:=(hb45.cell (p:=⟨B9,0,none⟩) hB9).trans hc9;simp only at hz41 hB9;clear hat hrd hU HU0 z5e hc9 ho9 hb45
  refine jh (q:=10) (gf:=170) (lb:=#[.pointer (some ⟨w4.heap.size+1,0,none⟩),.pointer (some ⟨w4.heap.size,0,none⟩)]) rfl (fun _ _=>?eg) (UpAt (fun k=>upN m k a) (lenM m a) (w4.heap.size+1) w4.heap.size IB PB 0 m.zc.length m.zc.length) (fun k=>upN m k a) (lenM m a) (w4.heap.size+1) (by omega) ?hit
    (fun k W=>Rd (fun b=>b=w4.heap.size+1) w5 W/\∀ j,j<k->((b :: l).all fun v=>inM m v (rgM m (upN m j a)))=false) (fun W=>Rd (fun b=>b=w4.heap.size+1\/b=w.heap.size+1) w5 W/\W.cell? ⟨w.heap.size+1,0,none⟩=some (.int .i64 (commonM m a (b :: l))))
    (fun k W h=>HAt.o _ W h.1 (by intro b hb;omega) rfl (by omega)) (fun k W W' h t=>⟨h.1.turn rfl t,h.2⟩) (fun W W' h t=>⟨h.1.turn (.inl rfl) t,(World.cell?_of_block (w:=W) (t.old (w.heap.size+1) (by omega) (by omega))).trans h.2⟩) ⟨Rd.refl _ _,fun j hj=>by omega⟩ hv1 ?hassign ?hbody ?hdone ?hstop
  case eg=>first | rfl | simp [go_sem]
  case hit=>exact fun l J Jx W hU hset hdrew hY hj hv=>zb8 (fun k=>upN m k a) (lenM m a) (w4.heap.size+1) w4.heap.size IB PB 0 m.zc.length m.zc.length hend l J Jx W hU hset hdrew hY hj hv
  case hassign =>
   intro l x W K hK;simp only [List.setIfInBounds_toArray,List.set_cons_succ,List.set_cons_zero] at hK |-
   gi_wp2
   exact hK
  case hbody =>
   rintro lp k W hk ⟨hr,hno⟩ hv
   try dsimp only at hr hno hv
   simp only [List.setIfInBounds_toArray,List.set_cons_succ,List.set_cons_zero];obtain ⟨e1,q⟩:=HRd.o _ W hr (by intro b hb;omega);obtain ⟨j,hj,hjl,q0,q1,q4⟩:=q k hk;have e4:=(hr.cell (b:=w.heap.size) (k:=0) (by omega) (by omega)).trans c4;have e8:=(hr.cell (b:=w.heap.size+1) (k:=0) (by omega) (by omega)).trans c8;have e9:=(hr.cell (b:=B9) (k:=0) (by omega) (by omega)).trans c9;have g8:=(World.frozen?_of_block (w:=w5) (a:=⟨w.heap.size+1,0,none⟩) (hr.blk (w.heap.size+1) (by omega) (by omega))).trans f8;have hWz:=hr.size;have hFound:Hid (((b :: l).all fun v=>inM m v (rgM m (upN m k a)))=true->commonM m a (b :: l)=rgM m (upN m k a)):=fun h=>(HD.o _).2 (by rw [zcE hk hno h])
   have HNo:Hid (∀ b',((b :: l).all fun v=>inM m v (rgM m (upN m k a)))=b'->b'=false->∀ j,j<k+1->((b :: l).all fun v=>inM m v (rgM m (upN m j a)))=false):=fun b' hb hf j hj=>by
     by_cases e:j=k
     . rw [e,hb,hf]
     . exact hno j (by omega)
   rw [hj] at hFound HNo;have hj0:(0:Int)<=(j:Int):=by omega
   have hj1:(j:Int)<(m.zc.length:Int):=by omega
   rw [hj];have HR:=hid hr;have HW4:Hid (Bl w4 W):=HB45.o.trans (hr.zf (by omega) (fun b' hb=>by omega));obtain ⟨r,hrr⟩:∃ r,rgM m (j:Int)=r:=⟨_,rfl⟩;rw [hrr] at q1 hFound HNo;have HCt:Hid (∀ wx,Bl W wx->∀ B11,wx.cell? ⟨B11,0,none⟩=some (.int .i64 r)->_):=fun wx g B11 h11=>zaW (HI4.o.grown (HW4.o.trans (g.mono HW4.o.size))) h0 (b :: l) v9 r w.heap.size B11 ((g.cell (p:=⟨w.heap.size,0,none⟩) (by simp only;omega)).trans e4) h11 (zY HO9.o (HW4.o.trans (g.mono HW4.o.size))) (by simp;omega) (by simp)
   unfold AnyC at HCt
   have HK:Hid (∀ w2,Below (W.alloc (.cells #[.int .i64 r] 3)).heap.size (W.alloc (.cells #[.int .i64 r] 3)) w2->Bl W w2/\w2.cell? ⟨W.heap.size,0,none⟩=some (.int .i64 r)/\w2.cell? ⟨w.heap.size+1,0,none⟩=some (.int .i64 0)/\w2.frozen? ⟨w.heap.size+1,0,none⟩=false/\w2.cell? ⟨w4.heap.size+1,0,none⟩=some (.int .i64 j)):=by
     intro w2 g;have g2:Bl W w2:=zl g;exact ⟨g2,bx1 g (by simp),(g2.cell (p:=⟨w.heap.size+1,0,none⟩) (by simp only;omega)).trans e8,(g2.frozen (p:=⟨w.heap.size+1,0,none⟩) (by simp only;omega)).trans g8,(g2.cell (p:=⟨w4.heap.size+1,0,none⟩) (by simp only;omega)).trans (by rw [<- hj];exact hv)⟩
   have h11:(W.alloc (.cells #[.int .i64 r] 3)).cell? ⟨W.heap.size,0,none⟩=some (.int .i64 r):=by simp
   have e91:(W.alloc (.cells #[.int .i64 r] 3)).cell? ⟨B9,0,none⟩=some v9:=Lib.cell?_alloc_some _ e9;obtain ⟨X,hX⟩:∃ X,((b :: l).all fun v=>inM m v r)=X:=⟨_,rfl⟩;rw [hX] at hFound HNo HCt;clear hr hno q c4 c8 f8 c9 hX hrr hend hv1 hv HAt HRd g8 e8
   cases X with
   | true =>
    have hF:=hid (hFound.o rfl);clear hFound HNo
    gi_wp2_with (refine ⟨trivial,?_⟩;gi_at_call 96;(with_reducible refine (CallsIn.inRound lp (callsIn_wide.2 (HCt.o _ (zg W _) _ h11))).mono ?_);rintro e w2 ⟨rfl,hb2⟩;obtain ⟨hB2,h12,e8,g8,hv2⟩:=HK.o _ hb2)
    refine ⟨?_,?_,?_⟩
    . exact (KeepsB.of_below hB2).trans (KeepsB.set e8)
    . exact ((HR.o.bel (hB2.mono hWz)).weaken (fun _ h=>.inl h)).set (.inl (.inr rfl)) _
    . rw [hF.o];exact World.cell?_setCell_same _ _ _ e8
   | false =>
    have hN:=hid (HNo.o false rfl rfl);clear hFound HNo
    gi_wp2_with (refine ⟨trivial,?_⟩;gi_at_call 96;(with_reducible refine (CallsIn.inRound lp (callsIn_wide.2 (HCt.o _ (zg W _) _ h11))).mono ?_);rintro e w2 ⟨rfl,hb2⟩;obtain ⟨hB2,h12,e8,g8,hv2⟩:=HK.o _ hb2)
    exact ⟨KeepsB.of_below hB2,hv2,HR.o.bel (hB2.mono hWz),hN.o⟩
  case hdone =>
   rintro D W hDl ⟨hr,hno⟩ hK
   try dsimp only at hr hno
   have hp:commonM m a (b :: l)=-1:=(HD.o _).2 (by rw [zbl hno]);have HP:=hid hp;have e8:=(hr.cell (b:=w.heap.size+1) (k:=0) (by omega) (by omega)).trans c8;have g8:=(World.frozen?_of_block (w:=w5) (a:=⟨w.heap.size+1,0,none⟩) (hr.blk (w.heap.size+1) (by omega) (by omega))).trans f8;have HM:Hid (Marked w5.heap.size [D] W):=yM hK hDl;have HR:=hid hr;clear hr hno hK c4 c8 f8 c9 hp hv1 hend;go_wp2_with fail;have hM2:Marked w5.heap.size [D] (W.setCell ⟨w.heap.size+1,0,none⟩ (.int .i64 (-1))):=HM.o.keep fun D' hD'=>Below.heap_setCell _ _ _ _ (by have:=HM.o.lo D' hD';simp only;omega)
   have e7:(Rfu.shut [D] (W.setCell ⟨w.heap.size+1,0,none⟩ (.int .i64 (-1)))).cell? ⟨w.heap.size+1,0,none⟩=some (.int .i64 (-1)) :=
     ((zU hM2.lo).cell (p:=⟨w.heap.size+1,0,none⟩) (by simp only;omega)).trans (World.cell?_setCell_same _ _ _ e8)
   refine yl (ds:=[D]) hM2 (v:=.int .i64 (-1)) (by simp [results,results28,go_sem,e7]) ⟨by rw [HP.o],?_⟩;have hBW5:Bl w w5:=HC0.o.bel.trans (HB45.o.mono HC0.o.bel.size);exact hBW5.trans ((((HR.o.zf (B:=w.heap.size) (by have:=hBW5.size;omega) (fun b hb=>by omega)).setCell (p:=⟨w.heap.size+1,0,none⟩) (by simp only;omega) _)).trans (zU fun D' hD'=>by have:=hM2.lo D' hD';omega))
  case hstop =>
   rintro D W hDl ⟨hr,hc⟩ hK
   try dsimp only at hr hc
   have HM:Hid (Marked w5.heap.size [D] W):=yM hK hDl;have HR:=hid hr;clear hr hK c4 c8 f8 c9 hv1 hend;go_wp2_with fail
   have e7:(Rfu.shut [D] W).cell? ⟨w.heap.size+1,0,none⟩=some (.int .i64 (commonM m a (b :: l))) :=
     ((zU HM.o.lo).cell (p:=⟨w.heap.size+1,0,none⟩) (by simp only;omega)).trans hc
   refine yl (ds:=[D]) HM.o (v:=.int .i64 (commonM m a (b :: l))) (by simp [results,results28,go_sem,e7]) ⟨rfl,?_⟩;have hBW5:Bl w w5:=HC0.o.bel.trans (HB45.o.mono HC0.o.bel.size);exact hBW5.trans ((HR.o.zf (B:=w.heap.size) (by have:=hBW5.size;omega) (fun b hb=>by omega)).trans (zU fun D' hD'=>by have:=HM.o.lo D' hD';have:=hBW5.size;omega))
theorem zdv {B IB:Nat} {m:MdlD} {w:World} (h:IdxAt B m IB w) (a b:Int) (mv:Value) (l:List Int) (hl:l.length<=90000) (hr:RowIn w mv l) (h0:riM m=(0,0,0)) :
   Calls prog 28 #[.pointer (some ⟨IB,0,none⟩),.int .i64 a,.int .i64 b,mv] w fun e w'=>e=.returned (.int .i64 (commonM m a (b :: l)))/\Bl w w':=by
 cases ha:hasV m a with
 | false=>exact zeY h a b mv (b :: l) ha
 | true =>
  obtain ⟨i,rfl,hi⟩:=zZ ha;exact zdu h i b mv l hl hr h0 hi
end Go.Proofs
