/- Walks: 'Ref'. -/
import Derived.Test.YtfladiadgkfebaaGreatDoorKMdRf
import Derived.Deep.RegionLaw
import Derived.Deep.DeepCutAuto
import Derived.Laws.AppendOwnNone
namespace Go.Proofs
open Go.RowKit Go.Lx Go.Md Go.Shelf
open Lib(hid)
set_option maxRecDepth 100000
set_option maxHeartbeats 0
set_option linter.unusedVariables false
theorem info_rVar:(Tryz.prog.info? 70).map (fun i=>(i.zero,i.size,i.bytes))=some (some (.agg #[.string ⟨#[]⟩,.int .i64 0]),2,24):=by kernel_rfl
theorem info_rReg:(Tryz.prog.info? 84).map (fun i=>(i.zero,i.size,i.bytes))=some (some (.agg #[.string ⟨#[]⟩,.int .i64 0]),2,24):=by kernel_rfl
theorem info_rVer:(Tryz.prog.info? 86).map (fun i=>(i.zero,i.size,i.bytes))=some (some (.agg #[.string ⟨#[]⟩,.int .u8 0,.int .i64 0,.int .i64 0,.string ⟨#[]⟩,.string ⟨#[]⟩,.slice none 0 0,.string ⟨#[]⟩]),8,112):=by kernel_rfl
theorem info_rTrn:(Tryz.prog.info? 88).map (fun i=>(i.zero,i.size,i.bytes))=some (some (.agg #[.string ⟨#[]⟩,.int .i64 0,.int .i64 0,.slice none 0 0,.int .i64 0,.string ⟨#[]⟩,.string ⟨#[]⟩,.int .u8 0]),8,104):=by kernel_rfl
def EvD (m:MdlD) (w:World) (s:Nat) (v:Value) (wx:World):Prop:=∃ a c,v=.slice a m.evs.length c/\Sl (NewB (w.heap.size+3) s) 1 TxtE wx (.slice a m.evs.length c) m.evs
def VaD (m:MdlD) (lo hi:Nat) (v:Value) (wx:World):Prop:=∃ a c,v=.slice a m.vars.length c/\Sl (NewB lo hi) 2 VarE wx (.slice a m.vars.length c) m.vars
def ReD (m:MdlD) (lo hi:Nat) (v:Value) (wx:World):Prop:=∃ a c,v=.slice a m.regs.length c/\Sl (NewB lo hi) 2 RegE wx (.slice a m.regs.length c) m.regs
def CutR1 (m:MdlD) (p:Ph) (w wx:World):Prop:=∃ v2,RfS m p w (.slice none 0 0) v2 (.slice none 0 0) (.slice none 0 0) (.slice none 0 0) wx/\EvD m w wx.heap.size v2 wx
def NextRa (m:MdlD) (p:Ph) (w:World) (v2:Value) (s1 k:Nat) (wx:World):Prop:=∃ v1,RfS m p w v1 v2 (.slice none 0 0) (.slice none 0 0) (.slice none 0 0) wx/\Rows VarX 70 2 s1 v1 (m.vars.take (k+1)) wx/\EvD m w s1 v2 wx/\s1<=wx.heap.size
def NextRb (m:MdlD) (p:Ph) (w:World) (v1 v2:Value) (s1 s2 k:Nat) (wx:World):Prop:=∃ v3,RfS m p w v1 v2 v3 (.slice none 0 0) (.slice none 0 0) wx/\Rows RegX 84 2 s2 v3 (m.regs.take (k+1)) wx/\EvD m w s1 v2 wx/\VaD m s1 s2 v1 wx/\s2<=wx.heap.size
theorem EvD.step {m:MdlD} {w:World} {s B k:Nat} {v u:Value} {wo w4:World} (h:EvD m w s v wo) (g:Below B wo w4) (hs:s<=B):EvD m w s v (w4.setCell ⟨w.heap.size+2,k,none⟩ u):=by
 obtain ⟨a,c,rfl,h⟩:=h
 exact ⟨a,c,rfl,h.kept (TxtE.mono (R:=NewB (w.heap.size+3) s)) (kept_step g hs (by omega)) (kept_step g hs (by omega))⟩
theorem VaD.step {m:MdlD} {w:World} {lo hi B k:Nat} {v u:Value} {wo w4:World} (h:VaD m lo hi v wo) (g:Below B wo w4) (hs:hi<=B) (hl:w.heap.size+3<=lo):VaD m lo hi v (w4.setCell ⟨w.heap.size+2,k,none⟩ u):=by
 obtain ⟨a,c,rfl,h⟩:=h
 exact ⟨a,c,rfl,h.kept (VarE.mono (R:=NewB lo hi)) (kept_step g hs (by omega)) (kept_step g hs (by omega))⟩
theorem nextRa_of {m:MdlD} {p:Ph} {w wo w4:World} {v1 v2:Value} {s1 k gg cap2:Nat} {x:VarD} {css:List (List Value)} (hs:RfS m p w v1 v2 (.slice none 0 0) (.slice none 0 0) (.slice none 0 0) wo) (he:EvD m w s1 v2 wo) (h1:w.heap.size+3<=s1) (h2:s1<=wo.heap.size) (hlt:k<m.vars.length) (hx:x=m.vars[k])
   (hcl:css.length=(m.vars.take k).length) (hX:∀ i (h1:i<css.length) (h2:i<(m.vars.take k).length),css[i].length=2/\VarX wo css[i] (m.vars.take k)[i])
   (ho:w4.ownsRow s1 70 2 (.slice (some ⟨gg,0,none⟩) (k+1) cap2) (k+1) (css.flatten ++ [.string x.nm,.int .i64 x.ini])) (g:Below s1 wo w4) :
   NextRa m p w v2 s1 k (w4.setCell ⟨w.heap.size+1+1,1,none⟩ (.slice (some ⟨gg,0,none⟩) (k+1) cap2)) :=
 ⟨_,hs.step g h1 (Box.set1 (hs.o.below g (by omega)) _),plain_round hcl hlt hX (fun _ _ _ _ h=>h) (by omega) ho rfl (by rw [hx];rfl),he.step g (Nat.le_refl _),by have:=g.size;simp only [World.size_setCell];omega⟩
theorem nextRb_of {m:MdlD} {p:Ph} {w wo w4:World} {v1 v2 v3:Value} {s1 s2 k gg cap2:Nat} {x:RegD} {css:List (List Value)} (hs:RfS m p w v1 v2 v3 (.slice none 0 0) (.slice none 0 0) wo) (he:EvD m w s1 v2 wo) (hv:VaD m s1 s2 v1 wo) (h1:w.heap.size+3<=s1) (h12:s1<=s2) (h2:s2<=wo.heap.size) (hlt:k<m.regs.length) (hx:x=m.regs[k])
   (hcl:css.length=(m.regs.take k).length) (hX:∀ i (h1:i<css.length) (h2:i<(m.regs.take k).length),css[i].length=2/\RegX wo css[i] (m.regs.take k)[i])
   (ho:w4.ownsRow s2 84 2 (.slice (some ⟨gg,0,none⟩) (k+1) cap2) (k+1) (css.flatten ++ [.string x.nm,.int .i64 x.own])) (g:Below s2 wo w4) :
   NextRb m p w v1 v2 s1 s2 k (w4.setCell ⟨w.heap.size+1+1,3,none⟩ (.slice (some ⟨gg,0,none⟩) (k+1) cap2)) :=
 ⟨_,hs.step g (by omega) (Box.set3 (hs.o.below g (by omega)) _),plain_round hcl hlt hX (fun _ _ _ _ h=>h) (by omega) ho rfl (by rw [hx];rfl),he.step g h12,hv.step g (Nat.le_refl _) h1,by have:=g.size;simp only [World.size_setCell];omega⟩
def MidB (lo hi:Nat):BP:=fun b _=>lo<=b/\b<hi
def VeD (m:MdlD) (lo hi:Nat) (v:Value) (wx:World):Prop:=∃ a c,v=.slice a m.vers.length c/\Sl (NewB lo hi) 8 (VerE (MidB lo hi)) wx (.slice a m.vers.length c) m.vers
def TrD (m:MdlD) (lo hi:Nat) (v:Value) (wx:World):Prop:=∃ a c,v=.slice a m.trns.length c/\Sl (NewB lo hi) 8 (TrnE (MidB lo hi)) wx (.slice a m.trns.length c) m.trns
theorem kept_stepM {lo hi B b k:Nat} {u:Value} {wo w4:World} (g:Below B wo w4) (hB:hi<=B) (hb:b<lo):Kept (MidB lo hi) wo (w4.setCell ⟨b,k,none⟩ u) :=
 Kept.trans ⟨g.size,fun j _ hQ=>g.block j (Nat.lt_of_lt_of_le hQ.2 hB)⟩ (Kept.setCell fun _ hQ=>by have:=hQ.1;simp only at this;omega)
theorem ReD.step {m:MdlD} {w:World} {lo hi B k:Nat} {v u:Value} {wo w4:World} (h:ReD m lo hi v wo) (g:Below B wo w4) (hs:hi<=B) (hl:w.heap.size+3<=lo):ReD m lo hi v (w4.setCell ⟨w.heap.size+2,k,none⟩ u):=by
 obtain ⟨a,c,rfl,h⟩:=h
 exact ⟨a,c,rfl,h.kept (RegE.mono (R:=NewB lo hi)) (kept_step g hs (by omega)) (kept_step g hs (by omega))⟩
theorem VeD.step {m:MdlD} {w:World} {lo hi B k:Nat} {v u:Value} {wo w4:World} (h:VeD m lo hi v wo) (g:Below B wo w4) (hs:hi<=B) (hl:w.heap.size+3<=lo):VeD m lo hi v (w4.setCell ⟨w.heap.size+2,k,none⟩ u):=by
 obtain ⟨a,c,rfl,h⟩:=h
 exact ⟨a,c,rfl,h.kept VerE.mono (kept_step g hs (by omega)) (kept_stepM g hs (by omega))⟩
structure Fin3 (m:MdlD) (w:World) (s1 s2 s3:Nat) (v1 v2 v3:Value) (wx:World):Prop where
 ev:EvD m w s1 v2 wx
 va:VaD m s1 s2 v1 wx
 re:ReD m s2 s3 v3 wx
 h1:w.heap.size+3<=s1
 h12:s1<=s2
 h23:s2<=s3
 hz:s3<=wx.heap.size
theorem Fin3.step {m:MdlD} {w:World} {s1 s2 s3 B k:Nat} {v1 v2 v3 u:Value} {wo w4:World} (h:Fin3 m w s1 s2 s3 v1 v2 v3 wo) (g:Below B wo w4) (hB:s3<=B):Fin3 m w s1 s2 s3 v1 v2 v3 (w4.setCell ⟨w.heap.size+2,k,none⟩ u):=by
 have h1:=h.h1
 have h2:=h.h12
 have h3:=h.h23
 have h4:=h.hz
 exact ⟨h.ev.step g (by omega),h.va.step g (by omega) h1,h.re.step g hB (by omega),h1,h2,h3,by have:=g.size;simp only [World.size_setCell];omega⟩
theorem Below.row {B:Nat} {wo W' w6:World} {Z:Obj} {ob:Option Nat} (g:Bl wo W') (hB:B<=wo.heap.size) (hgrow:(W'.alloc Z).grownBy w6 ob) (hob:∀ j,ob=some j->B<=j):Below B wo w6 :=
 ((g.mono hB).alloc (by have:=g.size;omega) Z).grown hgrow (by have:=g.size;simp;omega) hob
def NextRc (m:MdlD) (p:Ph) (w:World) (s1 s2 s3:Nat) (v1 v2 v3:Value) (k:Nat) (wx:World):Prop:=∃ v4,RfS m p w v1 v2 v3 v4 (.slice none 0 0) wx/\Rows (VerX (InB s3 v4.ownBlock)) 86 8 s3 v4 (m.vers.take k) wx/\Fin3 m w s1 s2 s3 v1 v2 v3 wx
theorem nextRc_of {m:MdlD} {p:Ph} {w wo W' w6:World} {v1 v2 v3 v4:Value} {s1 s2 s3 k gg cap2:Nat} {Z:Obj} {x:VerD} {cs:List Value} {css:List (List Value)} (hs:RfS m p w v1 v2 v3 v4 (.slice none 0 0) wo) (hf:Fin3 m w s1 s2 s3 v1 v2 v3 wo) (hlt:k<m.vers.length) (hx:x=m.vers[k]) (hcl:css.length=(m.vers.take k).length)
   (hX:∀ i (h1:i<css.length) (h2:i<(m.vers.take k).length),css[i].length=8/\VerX (InB s3 v4.ownBlock) wo css[i] (m.vers.take k)[i]) (hob:∀ j,v4.ownBlock=some j->s3<=j/\j<wo.heap.size) (g:Bl wo W') (hgrow:(W'.alloc Z).grownBy w6 v4.ownBlock) (hat:v4.ownBlock=some gg\/gg=W'.heap.size+1)
   (hnew:VerX (NewB wo.heap.size W'.heap.size) W' cs x) (hc:cs.length=8) (ho:w6.ownsRow s3 86 8 (.slice (some ⟨gg,0,none⟩) (k+1) cap2) (k+1) (css.flatten ++ cs)) :
   NextRc m p w s1 s2 s3 v1 v2 v3 (k+1) (w6.setCell ⟨w.heap.size+1+1,4,none⟩ (.slice (some ⟨gg,0,none⟩) (k+1) cap2)):=by
 have h1:=hf.h1
 have h2:=hf.h12
 have h3:=hf.h23
 have h4:=hf.hz
 have G:=Below.row g h4 hgrow (fun j hj=>(hob j hj).1)
 subst hx
 exact ⟨_,hs.step G (by omega) (Box.set4 (hs.o.below G (by omega)) _),hung_round VerX.hung hlt hcl hX (by omega) h4 g hgrow hob hat hnew hc ho,hf.step G (Nat.le_refl _)⟩
structure Fin4 (m:MdlD) (w:World) (s1 s2 s3 s4:Nat) (v1 v2 v3 v4:Value) (wx:World):Prop where
 f3:Fin3 m w s1 s2 s3 v1 v2 v3 wx
 ve:VeD m s3 s4 v4 wx
 h34:s3<=s4
 hz:s4<=wx.heap.size
def NextRd (m:MdlD) (p:Ph) (w:World) (s1 s2 s3 s4:Nat) (v1 v2 v3 v4:Value) (k:Nat) (wx:World):Prop:=∃ v5,RfS m p w v1 v2 v3 v4 v5 wx/\Rows (TrnX (InB s4 v5.ownBlock)) 88 8 s4 v5 (m.trns.take k) wx/\Fin4 m w s1 s2 s3 s4 v1 v2 v3 v4 wx
theorem nextRd_of {m:MdlD} {p:Ph} {w wo W' w6:World} {v1 v2 v3 v4 v5:Value} {s1 s2 s3 s4 k gg cap2:Nat} {Z:Obj} {x:TrnD} {cs:List Value} {css:List (List Value)} (hs:RfS m p w v1 v2 v3 v4 v5 wo) (hf:Fin4 m w s1 s2 s3 s4 v1 v2 v3 v4 wo) (hlt:k<m.trns.length) (hx:x=m.trns[k]) (hcl:css.length=(m.trns.take k).length)
   (hX:∀ i (h1:i<css.length) (h2:i<(m.trns.take k).length),css[i].length=8/\TrnX (InB s4 v5.ownBlock) wo css[i] (m.trns.take k)[i]) (hob:∀ j,v5.ownBlock=some j->s4<=j/\j<wo.heap.size) (g:Bl wo W') (hgrow:(W'.alloc Z).grownBy w6 v5.ownBlock) (hat:v5.ownBlock=some gg\/gg=W'.heap.size+1)
   (hnew:TrnX (NewB wo.heap.size W'.heap.size) W' cs x) (hc:cs.length=8) (ho:w6.ownsRow s4 88 8 (.slice (some ⟨gg,0,none⟩) (k+1) cap2) (k+1) (css.flatten ++ cs)) :
   NextRd m p w s1 s2 s3 s4 v1 v2 v3 v4 (k+1) (w6.setCell ⟨w.heap.size+1+1,5,none⟩ (.slice (some ⟨gg,0,none⟩) (k+1) cap2)):=by
 have h1:=hf.f3.h1
 have h2:=hf.f3.h12
 have h3:=hf.f3.h23
 have h4:=hf.h34
 have h5:=hf.hz
 have G:=Below.row g h5 hgrow (fun j hj=>(hob j hj).1)
 subst hx
 exact ⟨_,hs.step G (by omega) (Box.set5 (hs.o.below G (by omega)) _),hung_round TrnX.hung hlt hcl hX (by omega) h5 g hgrow hob hat hnew hc ho,⟨hf.f3.step G (by omega),hf.ve.step G (Nat.le_refl _) (by omega),h4,by have:=G.size;simp only [World.size_setCell];omega⟩⟩
theorem ownsRow_low {w w':World} {base:Nat} {e:TypeId} {size:Nat} {v:Value} {n:Nat} {xs:List Value} (h:w.ownsRow base e size v n xs) (hb:Bl w w'):w'.ownsRow base e size v n xs:=by
 obtain ⟨h1,h2⟩:=h
 refine ⟨h1,?_⟩
 rcases h2 with h2 | ⟨g,cap,cur,rfl,hg,hcur,hr⟩
 . exact .inl h2
 . exact .inr ⟨g,cap,cur,rfl,hg,by rw [hb.block g (Array.getElem?_eq_some_iff.1 hcur).1];exact hcur,hr⟩
theorem MidB.kept_set {lo hi:Nat} {w:World} {H:Nat} {k:Nat} {u:Value} (h:H<lo):Kept (MidB lo hi) w (w.setCell ⟨H,k,none⟩ u):=Kept.setCell fun _ hQ=>by have:=hQ.1;simp only at this;omega
theorem zeroR_box {w:World} {b:Nat} (h:w.heap[b]? = some zeroR):Box w b (.string ⟨#[]⟩) (.slice none 0 0) (.slice none 0 0) (.slice none 0 0) (.slice none 0 0) (.slice none 0 0):=by
 unfold zeroR at h
 constructor <;> first | (unfold World.cell?;simp only [h];rfl) | (unfold World.frozen?;simp [h])
abbrev LowB (n:Nat):BP:=fun b _=>n<=b
theorem ref_done {m:MdlD} {w wo:World} {s1 s2 s3 s4 s5:Nat} {v1 v2 v3 v4 v5:Value} (h:Fin4 m w s1 s2 s3 s4 v1 v2 v3 v4 wo) (ht:TrD m s4 s5 v5 wo):∃ r:Ph,v1=.slice r.a1 m.vars.length r.c1/\v2=.slice r.a2 m.evs.length r.c2/\v3=.slice r.a3 m.regs.length r.c3/\v4=.slice r.a4 m.vers.length r.c4/\v5=.slice r.a5 m.trns.length r.c5 /\
   ∀ wf,(∀ lo hi,w.heap.size+3<=lo->Kept (NewB lo hi) wo wf)->(∀ lo hi,w.heap.size+3<=lo->Kept (MidB lo hi) wo wf)->Mod (fun _=>LowB w.heap.size) wf m r:=by
 have h1:=h.f3.h1
 have h2:=h.f3.h12
 have h3:=h.f3.h23
 have h4:=h.h34
 obtain ⟨a1,c1,rfl,q1⟩:=h.f3.va
 obtain ⟨a2,c2,rfl,q2⟩:=h.f3.ev
 obtain ⟨a3,c3,rfl,q3⟩:=h.f3.re
 obtain ⟨a4,c4,rfl,q4⟩:=h.ve
 obtain ⟨a5,c5,rfl,q5⟩:=ht
 refine ⟨⟨a1,c1,a2,c2,a3,c3,a4,c4,a5,c5⟩,rfl,rfl,rfl,rfl,rfl,fun wf hk hm=>⟨?_,?_,?_,?_,?_⟩⟩
 . exact (q1.kept (VarE.mono (R:=NewB s1 s2)) (hk _ _ h1) (hk _ _ h1)).weaken (fun b _ hQ=>by have:=hQ.1;show w.heap.size<=b;omega) fun _ _ _ h=>h
 . exact SlS.sl.2 ((q2.kept (TxtE.mono (R:=NewB (w.heap.size+3) s1)) (hk _ _ (Nat.le_refl _)) (hk _ _ (Nat.le_refl _))).weaken (fun b _ hQ=>by have:=hQ.1;show w.heap.size<=b;omega) fun _ _ _ h=>h)
 . exact (q3.kept (RegE.mono (R:=NewB s2 s3)) (hk _ _ (by omega)) (hk _ _ (by omega))).weaken (fun b _ hQ=>by have:=hQ.1;show w.heap.size<=b;omega) fun _ _ _ h=>h
 . exact (q4.kept VerE.mono (hk _ _ (by omega)) (hm _ _ (by omega))).weaken (fun b _ hQ=>by have:=hQ.1;show w.heap.size<=b;omega) fun _ _ _ h=>h.weaken (fun b _ hQ=>by have:=hQ.1;show w.heap.size<=b;omega)
 . exact (q5.kept TrnE.mono (hk _ _ (by omega)) (hm _ _ (by omega))).weaken (fun b _ hQ=>by have:=hQ.1;show w.heap.size<=b;omega) fun _ _ _ h=>h.weaken (fun b _ hQ=>by have:=hQ.1;show w.heap.size<=b;omega)
def RefP (m:MdlD) (w:World) (e:Ending) (w':World):Prop:=∃ p,e=.returned (mdV m p)/\Mod anyM w' m p/\Bl w w'
def RefQ (m:MdlD) (w:World) (e:Ending) (w':World):Prop:=∃ p,e=.returned (mdV m p)/\Mod (fun _=>LowB w.heap.size) w' m p/\Bl w w'
theorem cutR1_of {m:MdlD} {p:Ph} {w W0 w5:World} {v:Value} (hs:RfS m p w (.slice none 0 0) (.slice none 0 0) (.slice none 0 0) (.slice none 0 0) (.slice none 0 0) W0) (g:Below (w.heap.size+3) W0 w5) (he:EvD m w w5.heap.size v w5):CutR1 m p w (w5.setCell ⟨w.heap.size+1+1,2,none⟩ v):=by
 refine ⟨v,hs.step g (Nat.le_refl _) (Box.set2 (hs.o.below g (by omega)) _),?_⟩
 have:=he.step (k:=2) (u:=v) (Below.refl w5.heap.size w5) (Nat.le_refl _)
 simpa using this
section
variable {P:Program} {w:World}
theorem run_append_nilc (base:Nat) (t ty e:TypeId) (i:TypeInfo) (size:Nat) (ht:P.underlying t=some (.slice e)) (hi:P.info? e=some i) (v:Value) (n:Nat) (xs:List Value) (hown:w.ownsRow base e size v n xs) (c:Nat) :
   (Builtin.append_ #[t,t] ty #[v,.slice none 0 c]).run P w=.ok v w:=by
 rcases hown.2 with ⟨rfl,rfl⟩ | ⟨g,cap,cur,rfl,_,_,hnc,_⟩
 . simp [Builtin.append_,run_underlying ht,sizeOf,typeInfo,hi,Builtin.lenOf,Builtin.firstCells]
 . simp [Builtin.append_,run_underlying ht,sizeOf,typeInfo,hi,Builtin.lenOf,Builtin.firstCells,hnc,storeCells]
theorem wpList_append_nilc {ops:Array Oper} {rest:List Oper} {o:Oper} {a:Act} {Q:Exit->Act->World->Prop} (hgd:o.guard=none) (s x:Operand) (t:TypeId) (ho:o.op=.call { callee:=.builtin .append,args:=#[s,x],argTypes:=#[t,t] })
   (base:Nat) (e:TypeId) (i:TypeInfo) (size:Nat) (ht:P.underlying t=some (.slice e)) (hi:P.info? e=some i) (v:Value) (n:Nat) (xs:List Value) (hs:a.eval s=v) (hown:w.ownsRow base e size v n xs) (c:Nat) (hx:a.eval x=.slice none 0 c)
   (h:wpList P ops Q rest (a.put o.dst v) w):wpList P ops Q (o :: rest) a w:=by
 refine wpList_plain hgd fun K hK=>?_
 have hrun:=run_append_nilc (P:=P) (w:=w) base t o.type e i size ht hi v n xs hown c
 unfold Oper.wp
 simp [execOp,ho,resolve,invoke,builtin,hs,hx,hrun,Result.andThen]
 exact hK _ _ h
end
theorem ref_low {Q:Nat->BP} (m:MdlD) (p:Ph) (w:World) (h:Mod Q w m p) (hm:Sml m) :
   Calls Tryz.prog 11 #[mdV m p] w (RefQ m w):=by
 obtain ⟨i0,hi,iz0,iz1,iz2⟩:=info_parts info_rVar
 obtain ⟨i1,hj,jz0,jz1,jz2⟩:=info_parts info_rReg
 obtain ⟨i2,hk2,kz0,kz1,kz2⟩:=info_parts info_rVer
 obtain ⟨i4,hk4,mz0,mz1,mz2⟩:=info_parts info_rTrn
 obtain ⟨i9,h90,h91,h92,h93⟩:=info_parts info_Txt
 have H1:=hid h
 have HM:=hid hm
 have l4:=hm.vers
 have l5:=hm.trns
 have l1:=hm.vars
 have l3:=hm.regs
 have hm2:=hid hm
 unfold mdV
 clear h hm
 go_enter Tryz.func11,Tryz.ntmps11
 go_upto_region 2 with fail
 have HS0:Hid (RfS m p w (.slice none 0 0) (.slice none 0 0) (.slice none 0 0) (.slice none 0 0) (.slice none 0 0) (((w.alloc (.cells #[.string m.nm,.slice p.a1 m.vars.length p.c1,.slice p.a2 m.evs.length p.c2,.slice p.a3 m.regs.length p.c3,.slice p.a4 m.vers.length p.c4,.slice p.a5 m.trns.length p.c5] 42)).alloc (.cells #[.string ⟨#[]⟩,.slice none 0 0,.slice none 0 0,.slice none 0 0,.slice none 0 0,.slice none 0 0] 33)).alloc (.cells #[.string m.nm,.slice none 0 0,.slice none 0 0,.slice none 0 0,.slice none 0 0,.slice none 0 0] 33))) :=
   ⟨(box6 w m p).below (below_al2 _ _ _) (by simp),box_new3 _ _ _ _,alloc3_at _ _ _ _,((below_al2 w _ _).alloc (by simp;omega) _),by simp⟩
 have hsz0:((((w.alloc (.cells #[.string m.nm,.slice p.a1 m.vars.length p.c1,.slice p.a2 m.evs.length p.c2,.slice p.a3 m.regs.length p.c3,.slice p.a4 m.vers.length p.c4,.slice p.a5 m.trns.length p.c5] 42)).alloc (.cells #[.string ⟨#[]⟩,.slice none 0 0,.slice none 0 0,.slice none 0 0,.slice none 0 0,.slice none 0 0] 33)).alloc (.cells #[.string m.nm,.slice none 0 0,.slice none 0 0,.slice none 0 0,.slice none 0 0,.slice none 0 0] 33))).heap.size=w.heap.size+3:=by simp
 generalize (((w.alloc (.cells #[.string m.nm,.slice p.a1 m.vars.length p.c1,.slice p.a2 m.evs.length p.c2,.slice p.a3 m.regs.length p.c3,.slice p.a4 m.vers.length p.c4,.slice p.a5 m.trns.length p.c5] 42)).alloc (.cells #[.string ⟨#[]⟩,.slice none 0 0,.slice none 0 0,.slice none 0 0,.slice none 0 0,.slice none 0 0] 33)).alloc (.cells #[.string m.nm,.slice none 0 0,.slice none 0 0,.slice none 0 0,.slice none 0 0,.slice none 0 0] 33))=W0 at *
 obtain ⟨b0,b1,b2,b3,b4,b5,f0,f1,f2,f3,f4,f5⟩:=HS0.o.src
 obtain ⟨d0,d1,d2,d3,d4,d5,g0,g1,g2,g3,g4,g5⟩:=HS0.o.o
 have l2:=hm2.o.evs
 have HEv:=hid (src_cells (H1.o.evs.kept (Kept.of_below HS0.o.bel)))
 have HZ0:=hid hsz0
 clear hsz0
 go_cut [] (fun wx=>CutR1 m p w wx)
 case first =>
  rcases HEv.o with ⟨ha,hnil⟩ | ⟨ad,ha,hcell⟩
  . have HA:=hid ha
    have HNil:=hid hnil
    clear ha hnil
    go_wp2_with (at_builtin;refine wpList_append_nilc rfl (.tmp 16) (.tmp 18) 28 rfl (w.heap.size+3) 9 i9 1 Tryz.underlying28 h90 (.slice none 0 0) 0 [] rfl ⟨rfl,.inl ⟨rfl,rfl⟩⟩ p.c2 (by show Value.slice p.a2 m.evs.length p.c2=_;rw [HA.o,HNil.o];first | done | rfl) ?_)
    go_meet
    exact cutR1_of HS0.o (Below.refl _ _) ⟨none,0,by rw [HNil.o];rfl,.inl ⟨_,_,by rw [HNil.o];rfl,HNil.o⟩⟩
  . have HA:=hid ha
    have HCell:=hid hcell
    clear ha hcell
    go_wp2_with (at_builtin;refine wpList_append_own _ rfl (.tmp 16) (.tmp 18) 28 rfl (w.heap.size+3) 9 i9 (.string ⟨#[]⟩) 1 16 Tryz.underlying28 h90 h91 h92 h93 rfl (by decide) (.slice none 0 0) 0 [] rfl ⟨rfl,.inl ⟨rfl,rfl⟩⟩ ad m.evs.length p.c2 (m.evs.map Value.string) (by show Value.slice p.a2 m.evs.length p.c2=_;rw [HA.o]) (by simp) HCell.o (oneS _) (by unfold maxLen;omega) (by omega) (Nat.le_of_eq HZ0.o.symm) ?_;intro dv' w5 hown5 hgrow5 hnil5;obtain ⟨ea,ec,rfl,hs5⟩:=slS_own (l:=m.evs) (by simpa using hown5);have g5:=(Below.refl (w.heap.size+3) W0).grown hgrow5 (Nat.le_of_eq HZ0.o.symm) (fun j hj=>by cases hj);have dd:=(g5.cell (p:=⟨w.heap.size+1+1,2,none⟩) (by simp)).trans d2;have gd:=(g5.frozen (p:=⟨w.heap.size+1+1,2,none⟩) (by simp)).trans g2)
    go_meet
    exact cutR1_of HS0.o g5 ⟨ea,ec,rfl,SlS.sl.1 hs5⟩
 case rest =>
  obtain ⟨W1,hW1,hcut⟩:∃ W1:World,W1=_/\CutR1 m p w W1:=⟨_,rfl,hcut⟩
  subst hW1
  obtain ⟨v2,hc,he⟩:=hcut
  clear b0 b1 b2 b3 b4 b5 f0 f1 f2 f3 f4 f5 d0 d1 d2 d3 d4 d5 g0 g1 g2 g3 g4 g5 HS0 HEv HZ0
  have hW1z:=hc.z
  have HC:=hid hc
  have HE:=hid he
  obtain ⟨b0,b1,b2,b3,b4,b5,f0,f1,f2,f3,f4,f5⟩:=hc.src
  clear hc he
  go_wp2_with fail
  go_loopw [4] (fun i wr=>∃ (k:Nat) (v1:Value),k<=m.vars.length/\i=.int .i64 k/\RfS m p w v1 v2 (.slice none 0 0) (.slice none 0 0) (.slice none 0 0) wr/\Rows VarX 70 2 W1.heap.size v1 (m.vars.take k) wr/\EvD m w W1.heap.size v2 wr/\W1.heap.size<=wr.heap.size) (fun i _=>m.vars.length - (intOf i).toNat)
  case atStart=>exact ⟨0,_,by omega,rfl,HC.o,Rows.start,HE.o,Nat.le_refl _⟩
  case round =>
   clear b0 b1 b2 b3 b4 b5 f0 f1 f2 f3 f4 f5
   obtain ⟨wo,rfl⟩:=ex1 wr
   obtain ⟨k,v1,hk,rfl,hs,hr,hke1,hW1s⟩:=hrel
   have HS:=hid hs
   have HKE:=hid hke1
   by_cases hlt:k<m.vars.length
   . have hltI:(k:Int)<(m.vars.length:Int):=by omega
     have hi0:(0:Int)<=(k:Int):=by omega
     obtain ⟨b1,o1,ha1,hb1,r0,r1⟩:=H1.o.vars.get hlt
     have HXE:Hid (∃ x,x=m.vars[k]):=⟨_,rfl⟩
     obtain ⟨x,hxe⟩:=HXE.o
     rw [<- hxe] at r0 r1
     have HXQ:=hid hxe
     clear hxe HXE
     have r0:=(hs.bel.cell (p:=⟨b1,o1+k * 2,none⟩) hb1).trans r0
     have r1:=(hs.bel.cell (p:=⟨b1,o1+k * 2+1,none⟩) hb1).trans r1
     have hbo:b1<wo.heap.size:=Nat.lt_of_lt_of_le hb1 hs.bel.size
     obtain ⟨css,hcl,hown,hX⟩:=hr
     have HXX:=hid hX
     have hlen:(m.vars.take k).length=k:=List.length_take_of_le (by omega)
     rw [hlen] at hown
     have HCL:=hid hcl
     have hsz:=hs.z
     have hsb:=hs.bel.size
     obtain ⟨b0,b1',b2,b3,b4,b5,f0,f1,f2,f3,f4,f5⟩:=hs.src
     obtain ⟨d0,d1,d2,d3,d4,d5,g0,g1,g2,g3,g4,g5⟩:=hs.o
     rw [ha1] at b1'
     have HA:=hid ha1
     have hz2:w.heap.size+1+1<wo.heap.size:=by omega
     have hz0:w.heap.size<wo.heap.size:=by omega
     have HFar:Hid (∀ W',((wo.alloc (.cells #[.string x.nm,.int .i64 x.ini] 70)).drew).grownBy W' v1.ownBlock->W'.cell? ⟨w.heap.size+1+1,1,none⟩=some v1/\W'.frozen? ⟨w.heap.size+1+1,1,none⟩=false):=fun W' hg=>by
       have hne:some (w.heap.size+1+1)≠v1.ownBlock:=fun e=>by have:=(hown.lt _ e.symm).1;omega
       refine ⟨(hg.cell_far ⟨w.heap.size+1+1,1,none⟩ (by simp;omega) hne).trans ?_,(hg.frozen_far ⟨w.heap.size+1+1,1,none⟩ (by simp;omega) hne).trans ?_⟩
       . exact ((below_al1 wo _).drew.cell (p:=⟨w.heap.size+1+1,1,none⟩) (by simp only;omega)).trans d1
       . exact ((below_al1 wo _).drew.frozen (p:=⟨w.heap.size+1+1,1,none⟩) (by simp only;omega)).trans g1
     have HG:Hid (∀ W',((wo.alloc (.cells #[.string x.nm,.int .i64 x.ini] 70)).drew).grownBy W' v1.ownBlock->Below W1.heap.size wo W'):=fun W' hg =>
       (((Below.refl _ wo).alloc hW1s _).drew).grown hg (by simp;omega) (fun j hj=>(hown.lt _ hj).1)
     clear hs hX hcl hlen ha1 hke1
     go_wp2_with fail
     go_region_law ((refine step_append_lies _ (by rfl) _ _ _ (by rfl) W1.heap.size 70 i0 _ 2 24 Tryz.underlying27 hi iz0 iz1 iz2 rfl (by omega) _ k (css.flatten) (by rfl) ((hown.alloc _).drew) ⟨wo.heap.size,0,none⟩ 1 1 [.string x.nm,.int .i64 x.ini] (by rfl) (by rfl) (World.news_of_block (cs:=#[.string x.nm,.int .i64 x.ini]) (t:=70) (fr:=(0,0)) (alloc1_at wo _)) (by simp [Value.oneCell']) (by omega) (by unfold maxLen;omega) (by omega) (by simp;omega) (wo.heap.size+1) (by simp) ?_;intro gg cap2 w4 hown4 hgrow4 hat4 hlt4;obtain ⟨dd,gd⟩:=HFar.o _ hgrow4))
     all_goals
       go_wp2_with fail
       go_roundw
       case rel =>
        obtain ⟨vn,hn⟩:=nextRa_of HS.o HKE.o hW1z hW1s hlt HXQ.o HCL.o HXX.o hown4 (HG.o _ hgrow4)
        exact ⟨k+1,vn,by omega,by go_num,hn⟩
       case measure=>simp [intOf] <;> omega
   . have hke:k=m.vars.length:=by omega
     subst hke
     have HR:Hid (VaD m W1.heap.size wo.heap.size v1 wo):=by
       have hr2:Rows VarX 70 2 W1.heap.size v1 m.vars wo:=by have:=hr;rw [List.take_length] at this;exact this
       exact hr2.done (by decide) fun cs x b o _ h hc=>h.elem hc
     obtain ⟨b0,b1',b2,b3,b4,b5,f0,f1,f2,f3,f4,f5⟩:=hs.src
     have hwz:=hs.z
     clear hs hr hlt
     go_wp2_with fail
     go_loopw [5] (fun i wr=>∃ (k:Nat) (v3:Value),k<=m.regs.length/\i=.int .i64 k/\RfS m p w v1 v2 v3 (.slice none 0 0) (.slice none 0 0) wr/\Rows RegX 84 2 wo.heap.size v3 (m.regs.take k) wr/\EvD m w W1.heap.size v2 wr/\VaD m W1.heap.size wo.heap.size v1 wr/\wo.heap.size<=wr.heap.size) (fun i _=>m.regs.length - (intOf i).toNat)
     case atStart=>exact ⟨0,_,by omega,rfl,HS.o,Rows.start,HKE.o,HR.o,Nat.le_refl _⟩
     case round =>
      clear b0 b1' b2 b3 b4 b5 f0 f1 f2 f3 f4 f5 HS HKE HR
      have hW1o:=hW1s
      obtain ⟨ws,hws⟩:∃ ws:Nat,ws=wo.heap.size:=⟨_,rfl⟩
      rw [<- hws] at hrel hW1o hwz |-
      clear hW1s hws
      obtain ⟨wp,rfl⟩:∃ wp:World,wp=wo:=⟨_,rfl⟩
      obtain ⟨wo,rfl⟩:=ex1 wr
      obtain ⟨k,v3,hk,rfl,hs,hr,hke1,hke2,hW1s⟩:=hrel
      have HS:=hid hs
      have HKE:=hid hke1
      have HKV:=hid hke2
      by_cases hlt:k<m.regs.length
      . have hltI:(k:Int)<(m.regs.length:Int):=by omega
        have hi0:(0:Int)<=(k:Int):=by omega
        obtain ⟨b1,o1,ha1,hb1,r0,r1⟩:=H1.o.regs.get hlt
        have HXE:Hid (∃ x,x=m.regs[k]):=⟨_,rfl⟩
        obtain ⟨x,hxe⟩:=HXE.o
        rw [<- hxe] at r0 r1
        have HXQ:=hid hxe
        clear hxe HXE
        have r0:=(hs.bel.cell (p:=⟨b1,o1+k * 2,none⟩) hb1).trans r0
        have r1:=(hs.bel.cell (p:=⟨b1,o1+k * 2+1,none⟩) hb1).trans r1
        have hbo:b1<wo.heap.size:=Nat.lt_of_lt_of_le hb1 hs.bel.size
        obtain ⟨css,hcl,hown,hX⟩:=hr
        have HXX:=hid hX
        have hlen:(m.regs.take k).length=k:=List.length_take_of_le (by omega)
        rw [hlen] at hown
        have HCL:=hid hcl
        have hsz:=hs.z
        have hsb:=hs.bel.size
        obtain ⟨b0,b1',b2,b3,b4,b5,f0,f1,f2,f3,f4,f5⟩:=hs.src
        obtain ⟨d0,d1,d2,d3,d4,d5,g0,g1,g2,g3,g4,g5⟩:=hs.o
        rw [ha1] at b3
        have HA:=hid ha1
        have hz2:w.heap.size+1+1<wo.heap.size:=by omega
        have hz0:w.heap.size<wo.heap.size:=by omega
        have HFar:Hid (∀ W',((wo.alloc (.cells #[.string x.nm,.int .i64 x.own] 84)).drew).grownBy W' v3.ownBlock->W'.cell? ⟨w.heap.size+1+1,3,none⟩=some v3/\W'.frozen? ⟨w.heap.size+1+1,3,none⟩=false):=fun W' hg=>by
          have hne:some (w.heap.size+1+1)≠v3.ownBlock:=fun e=>by have:=(hown.lt _ e.symm).1;omega
          refine ⟨(hg.cell_far ⟨w.heap.size+1+1,3,none⟩ (by simp;omega) hne).trans ?_,(hg.frozen_far ⟨w.heap.size+1+1,3,none⟩ (by simp;omega) hne).trans ?_⟩
          . exact ((below_al1 wo _).drew.cell (p:=⟨w.heap.size+1+1,3,none⟩) (by simp only;omega)).trans d3
          . exact ((below_al1 wo _).drew.frozen (p:=⟨w.heap.size+1+1,3,none⟩) (by simp only;omega)).trans g3
        have HG:Hid (∀ W',((wo.alloc (.cells #[.string x.nm,.int .i64 x.own] 84)).drew).grownBy W' v3.ownBlock->Below ws wo W'):=fun W' hg =>
          (((Below.refl _ wo).alloc hW1s _).drew).grown hg (by simp;omega) (fun j hj=>(hown.lt _ hj).1)
        clear hs hX hcl hlen ha1 hke1 hke2
        go_wp2_with fail
        go_region_law ((refine step_append_lies _ (by rfl) _ _ _ (by rfl) ws 84 i1 _ 2 24 Tryz.underlying29 hj jz0 jz1 jz2 rfl (by omega) _ k (css.flatten) (by rfl) ((hown.alloc _).drew) ⟨wo.heap.size,0,none⟩ 1 1 [.string x.nm,.int .i64 x.own] (by rfl) (by rfl) (World.news_of_block (cs:=#[.string x.nm,.int .i64 x.own]) (t:=84) (fr:=(0,0)) (alloc1_at wo _)) (by simp [Value.oneCell']) (by omega) (by unfold maxLen;omega) (by omega) (by simp;omega) (wo.heap.size+1) (by simp) ?_;intro gg cap2 w4 hown4 hgrow4 hat4 hlt4;obtain ⟨dd,gd⟩:=HFar.o _ hgrow4))
        all_goals
          go_wp2_with fail
          go_roundw
          case rel =>
           obtain ⟨vn,hn⟩:=nextRb_of HS.o HKE.o HKV.o hW1z hW1o hW1s hlt HXQ.o HCL.o HXX.o hown4 (HG.o _ hgrow4)
           exact ⟨k+1,vn,by omega,by go_num,hn⟩
          case measure=>simp [intOf] <;> omega
      . have hke:k=m.regs.length:=by omega
        subst hke
        have HR3:Hid (ReD m ws wo.heap.size v3 wo):=by
          have hr2:Rows RegX 84 2 ws v3 m.regs wo:=by have:=hr;rw [List.take_length] at this;exact this
          exact hr2.done (by decide) fun cs x b o _ h hc=>h.elem hc
        have HF3:Hid (Fin3 m w W1.heap.size ws wo.heap.size v1 v2 v3 wo):=⟨HKE.o,HKV.o,HR3.o,hW1z,hW1o,hW1s,Nat.le_refl _⟩
        obtain ⟨s3,hs3⟩:∃ s3:Nat,s3=wo.heap.size:=⟨_,rfl⟩
        rw [<- hs3] at HF3
        obtain ⟨s1,hs1⟩:∃ s1:Nat,s1=W1.heap.size:=⟨_,rfl⟩
        rw [<- hs1] at HF3
        obtain ⟨b0,b1',b2,b3,b4,b5,f0,f1,f2,f3,f4,f5⟩:=hs.src
        clear hs hr hlt hs3 hs1 HR3 HKE HKV hke1 hke2 hW1o hwz hW1z hW1s
        go_wp2_with fail
        go_loopw [6] (fun i wr=>∃ (k:Nat),k<=m.vers.length/\i=.int .i64 k/\NextRc m p w s1 ws s3 v1 v2 v3 k wr) (fun i _=>m.vers.length - (intOf i).toNat)
        case atStart=>exact ⟨0,by omega,rfl,_,HS.o,Rows.start,HF3.o⟩
        case round =>
         clear b0 b1' b2 b3 b4 b5 f0 f1 f2 f3 f4 f5 HS HF3
         obtain ⟨wo,rfl⟩:=ex1 wr
         obtain ⟨k,hk,rfl,v4,hs,hr,hf⟩:=hrel
         have HS:=hid hs
         have HFi:=hid hf
         have hzb:s3<=wo.heap.size:=hf.hz
         by_cases hlt:k<m.vers.length
         . have hltI:(k:Int)<(m.vers.length:Int):=by omega
           have hi0:(0:Int)<=(k:Int):=by omega
           obtain ⟨b1,o1,ha1,hb1,dv,hsd,r0,r1,r2,r3,r4,r5,r6,r7⟩:=H1.o.vers.get hlt
           have HXE:Hid (∃ x,x=m.vers[k]):=⟨_,rfl⟩
           have hdl:m.vers[k].df.length<=100000:=HM.o.df _ (List.getElem_mem hlt)
           obtain ⟨x,hxe⟩:=HXE.o
           rw [<- hxe] at r0 r1 r2 r3 r4 r5 r7 hsd hdl
           have HXQ:=hid hxe
           clear hxe HXE
           obtain ⟨da,dc,rfl⟩:=hsd.len
           have hwo:=hs.bel
           have hsd:=hsd.kept (Kept.of_below hwo)
           replace r0:=(hwo.cell (p:=⟨b1,o1+k * 8,none⟩) hb1).trans r0
           replace r1:=(hwo.cell (p:=⟨b1,o1+k * 8+1,none⟩) hb1).trans r1
           replace r2:=(hwo.cell (p:=⟨b1,o1+k * 8+2,none⟩) hb1).trans r2
           replace r3:=(hwo.cell (p:=⟨b1,o1+k * 8+3,none⟩) hb1).trans r3
           replace r4:=(hwo.cell (p:=⟨b1,o1+k * 8+4,none⟩) hb1).trans r4
           replace r5:=(hwo.cell (p:=⟨b1,o1+k * 8+5,none⟩) hb1).trans r5
           replace r6:=(hwo.cell (p:=⟨b1,o1+k * 8+6,none⟩) hb1).trans r6
           replace r7:=(hwo.cell (p:=⟨b1,o1+k * 8+7,none⟩) hb1).trans r7
           have hbo:b1<wo.heap.size:=Nat.lt_of_lt_of_le hb1 hwo.size
           obtain ⟨css,hcl,hown,hX⟩:=hr
           have HXX:=hid hX
           have hlen:(m.vers.take k).length=k:=List.length_take_of_le (by omega)
           rw [hlen] at hown
           have HCL:=hid hcl
           have hsz:=hs.z
           have HOB:Hid (∀ j,v4.ownBlock=some j->s3<=j/\j<wo.heap.size):=hown.lt
           obtain ⟨b0,b1',b2,b3,b4,b5,f0,f1,f2,f3,f4,f5⟩:=hs.src
           obtain ⟨d0,d1,d2,d3,d4,d5,g0,g1,g2,g3,g4,g5⟩:=hs.o
           rw [ha1] at b4
           have HA:=hid ha1
           have hz2:w.heap.size+1+1<wo.heap.size:=by omega
           have hz0:w.heap.size<wo.heap.size:=by omega
           have hz1:w.heap.size+1<wo.heap.size:=by omega
           have hz3:w.heap.size+1+1<wo.heap.size+1:=by omega
           have HFar:Hid (∀ (W' w6:World) (Z:Obj),Bl wo W'->(W'.alloc Z).grownBy w6 v4.ownBlock->w6.cell? ⟨w.heap.size+1+1,4,none⟩=some v4/\w6.frozen? ⟨w.heap.size+1+1,4,none⟩=false):=fun W' w6 Z g hg=>by
             have hg1:=g.size
             have hf1:=hf.h1
             have hne:some (w.heap.size+1+1)≠v4.ownBlock:=fun e=>by have:=(hown.lt _ e.symm).1;have:=hf.h12;have:=hf.h23;omega
             refine ⟨(hg.cell_far ⟨w.heap.size+1+1,4,none⟩ (by simp;omega) hne).trans ?_,(hg.frozen_far ⟨w.heap.size+1+1,4,none⟩ (by simp;omega) hne).trans ?_⟩
             . exact ((g.alloc hg1 Z).cell (p:=⟨w.heap.size+1+1,4,none⟩) (by simp only;omega)).trans d4
             . exact ((g.alloc hg1 Z).frozen (p:=⟨w.heap.size+1+1,4,none⟩) (by simp only;omega)).trans g4
           rcases src_cells hsd with ⟨rfl,hnil⟩ | ⟨ad,rfl,hsrc⟩
           . have HNil:=hid hnil
             have HNew:Hid (∀ W',VerX (NewB wo.heap.size W'.heap.size) W' [.string x.nm,.int .u8 x.kd,.int .i64 x.rg,.int .i64 x.ofv,.string x.en,.string x.ex,.slice none 0 0,.string x.sb] x):=fun W'=>⟨.slice none 0 0,.inl ⟨_,_,rfl,hnil⟩,rfl⟩
             clear hs hX hcl hlen ha1 hf hsd hnil hwo
             go_wp2_with (first | (at_builtin;refine wpList_append_nilc rfl (.tmp 99) (.tmp 101) 28 rfl wo.heap.size 9 i9 1 Tryz.underlying28 h90 (.slice none 0 0) 0 [] rfl ⟨rfl,.inl ⟨rfl,rfl⟩⟩ dc (by show Value.slice none x.df.length dc=_;rw [HNil.o];first | done | rfl) ?_) | (at_builtin;refine wpList_append_lies _ rfl (.tmp 105) (.tmp 107) 30 rfl s3 86 i2 _ 8 112 Tryz.underlying30 hk2 kz0 kz1 kz2 rfl (by decide) v4 k css.flatten rfl ((ownsRow_low hown (below_al2 wo _ _)).alloc _) ⟨wo.heap.size+1+1,0,none⟩ 1 1 [.string x.nm,.int .u8 x.kd,.int .i64 x.rg,.int .i64 x.ofv,.string x.en,.string x.ex,.slice none 0 0,.string x.sb] rfl rfl (World.news_of_block (cs:=#[.string x.nm,.int .u8 x.kd,.int .i64 x.rg,.int .i64 x.ofv,.string x.en,.string x.ex,.slice none 0 0,.string x.sb]) (t:=86) (fr:=(0,0)) (by have:=alloc1_at ((wo.alloc (.cells #[.string x.nm,.int .u8 x.kd,.int .i64 x.rg,.int .i64 x.ofv,.string x.en,.string x.ex,.slice none x.df.length dc,.string x.sb] 49)).alloc (.cells #[.string x.nm,.int .u8 x.kd,.int .i64 x.rg,.int .i64 x.ofv,.string x.en,.string x.ex,.slice none 0 0,.string x.sb] 86)) (.cells #[.string x.nm,.int .u8 x.kd,.int .i64 x.rg,.int .i64 x.ofv,.string x.en,.string x.ex,.slice none 0 0,.string x.sb] 86);simpa using this)) (by simp [Value.oneCell']) (by decide) (by unfold maxLen;omega) (by omega) (by simp;omega) (wo.heap.size+1+1+1) (by simp) ?_;intro gg cap2 w6 hown6 hgrow6 hat6 hlt6;obtain ⟨dd,gd⟩:=HFar.o _ _ _ (below_al2 wo _ _) hgrow6))
             go_roundw
             case rel=>exact ⟨k+1,by omega,by go_num,nextRc_of HS.o HFi.o hlt HXQ.o HCL.o HXX.o HOB.o (below_al2 wo _ _) hgrow6 (by simpa using hat6) (HNew.o _) rfl hown6⟩
             case measure=>simp [intOf] <;> omega
           . have HSrc:=hid hsrc
             clear hs hX hcl hlen ha1 hf hsd hsrc hwo
             go_wp2_with (first | (at_builtin;refine wpList_append_own _ rfl (.tmp 99) (.tmp 101) 28 rfl (wo.heap.size+2) 9 i9 (.string ⟨#[]⟩) 1 16 Tryz.underlying28 h90 h91 h92 h93 rfl (by decide) (.slice none 0 0) 0 [] rfl ⟨rfl,.inl ⟨rfl,rfl⟩⟩ ad x.df.length dc (x.df.map Value.string) rfl (by simp) (fun j u hj=>Lib.cell?_alloc_some _ (Lib.cell?_alloc_some _ (HSrc.o j u hj))) (oneS _) (by unfold maxLen;omega) (by omega) (by simp) ?_;intro dv' w5 hown5 hgrow5 hnil5;obtain ⟨ea,ec,rfl,hs5⟩:=slS_own (l:=x.df) (by simpa using hown5);have g5:=(Below.refl ((wo.alloc (.cells #[.string x.nm,.int .u8 x.kd,.int .i64 x.rg,.int .i64 x.ofv,.string x.en,.string x.ex,.slice (some ad) x.df.length dc,.string x.sb] 49)).alloc (.cells #[.string x.nm,.int .u8 x.kd,.int .i64 x.rg,.int .i64 x.ofv,.string x.en,.string x.ex,.slice none 0 0,.string x.sb] 86)).heap.size ((wo.alloc (.cells #[.string x.nm,.int .u8 x.kd,.int .i64 x.rg,.int .i64 x.ofv,.string x.en,.string x.ex,.slice (some ad) x.df.length dc,.string x.sb] 49)).alloc (.cells #[.string x.nm,.int .u8 x.kd,.int .i64 x.rg,.int .i64 x.ofv,.string x.en,.string x.ex,.slice none 0 0,.string x.sb] 86))).grown hgrow5 (Nat.le_refl _) (fun j hj=>by cases hj);have g5':=below_box2 g5;have G':Bl wo (w5.setCell ⟨wo.heap.size+1,6,none⟩ (.slice ea x.df.length ec)):=g5'.setCell (by simp) _;have y0:w5.cell? ⟨wo.heap.size+1,0,none⟩=some (.string x.nm):=box2_1 g5 (by simp);have y1:w5.cell? ⟨wo.heap.size+1,1,none⟩=some (.int .u8 x.kd):=box2_1 g5 (by simp);have y2:w5.cell? ⟨wo.heap.size+1,2,none⟩=some (.int .i64 x.rg):=box2_1 g5 (by simp);have y3:w5.cell? ⟨wo.heap.size+1,3,none⟩=some (.int .i64 x.ofv):=box2_1 g5 (by simp);have y4:w5.cell? ⟨wo.heap.size+1,4,none⟩=some (.string x.en):=box2_1 g5 (by simp);have y5:w5.cell? ⟨wo.heap.size+1,5,none⟩=some (.string x.ex):=box2_1 g5 (by simp);have y6:w5.cell? ⟨wo.heap.size+1,6,none⟩=some (.slice none 0 0):=box2_1 g5 (by simp);have y7:w5.cell? ⟨wo.heap.size+1,7,none⟩=some (.string x.sb):=box2_1 g5 (by simp);have yf:w5.frozen? ⟨wo.heap.size+1,6,none⟩=false:=(g5.frozen (p:=⟨wo.heap.size+1,6,none⟩) (by simp)).trans (by simp);have dx:=(g5'.cell (p:=⟨w.heap.size+1+1,4,none⟩) hz2).trans d4;have hz5:wo.heap.size+1<w5.heap.size:=by have:=g5.size;simp at this;omega) | (at_builtin;refine wpList_append_lies _ rfl (.tmp 105) (.tmp 107) 30 rfl s3 86 i2 _ 8 112 Tryz.underlying30 hk2 kz0 kz1 kz2 rfl (by decide) v4 k css.flatten rfl ((ownsRow_low hown G').alloc _) ⟨w5.heap.size,0,none⟩ 1 1 [.string x.nm,.int .u8 x.kd,.int .i64 x.rg,.int .i64 x.ofv,.string x.en,.string x.ex,.slice ea x.df.length ec,.string x.sb] rfl rfl (World.news_of_block (cs:=#[.string x.nm,.int .u8 x.kd,.int .i64 x.rg,.int .i64 x.ofv,.string x.en,.string x.ex,.slice ea x.df.length ec,.string x.sb]) (t:=86) (fr:=(0,0)) (by have:=alloc1_at (w5.setCell ⟨wo.heap.size+1,6,none⟩ (.slice ea x.df.length ec)) (.cells #[.string x.nm,.int .u8 x.kd,.int .i64 x.rg,.int .i64 x.ofv,.string x.en,.string x.ex,.slice ea x.df.length ec,.string x.sb] 86);simpa using this)) (by simp [Value.oneCell']) (by decide) (by unfold maxLen;omega) (by omega) (by simp;omega) (w5.heap.size+1) (by simp) ?_;intro gg cap2 w6 hown6 hgrow6 hat6 hlt6;obtain ⟨dd,gd⟩:=HFar.o _ _ _ G' hgrow6))
             go_roundw
             case rel=>exact ⟨k+1,by omega,by go_num,nextRc_of HS.o HFi.o hlt HXQ.o HCL.o HXX.o HOB.o G' hgrow6 (by simpa using hat6) ⟨_,(hs5.kept (NewB.kept_set (by omega))).weaken (fun _ _ hb=>hb.wide (by omega) (by simp)),rfl⟩ rfl hown6⟩
             case measure=>simp [intOf] <;> omega
         . have hke:k=m.vers.length:=by omega
           subst hke
           have HF4:Hid (Fin4 m w s1 ws s3 wo.heap.size v1 v2 v3 v4 wo):=by
             have hr2:Rows (VerX (InB s3 v4.ownBlock)) 86 8 s3 v4 m.vers wo:=by have:=hr;rw [List.take_length] at this;exact this
             refine ⟨hf,hr2.done (by decide) fun cs x b o _ h hc=>(VerX.elem h hc).weaken fun b hb hQ=>⟨hQ.1,hb⟩,hf.hz,Nat.le_refl _⟩
           obtain ⟨s4,hs4⟩:∃ s4:Nat,s4=wo.heap.size:=⟨_,rfl⟩
           rw [<- hs4] at HF4
           obtain ⟨b0,b1',b2,b3,b4,b5,f0,f1,f2,f3,f4,f5⟩:=hs.src
           clear hs hr hlt hs4 hf HFi hzb
           go_wp2_with fail
           go_loopw [9] (fun i wr=>∃ (k:Nat),k<=m.trns.length/\i=.int .i64 k/\NextRd m p w s1 ws s3 s4 v1 v2 v3 v4 k wr) (fun i _=>m.trns.length - (intOf i).toNat)
           case atStart=>exact ⟨0,by omega,rfl,_,HS.o,Rows.start,HF4.o⟩
           case round =>
            clear b0 b1' b2 b3 b4 b5 f0 f1 f2 f3 f4 f5 HS HF4
            obtain ⟨wo,rfl⟩:=ex1 wr
            obtain ⟨k,hk,rfl,v5,hs,hr,hf⟩:=hrel
            have HS:=hid hs
            have HFi:=hid hf
            have hzb:s4<=wo.heap.size:=hf.hz
            by_cases hlt:k<m.trns.length
            . have hltI:(k:Int)<(m.trns.length:Int):=by omega
              have hi0:(0:Int)<=(k:Int):=by omega
              obtain ⟨b1,o1,ha1,hb1,dv,hsd,r0,r1,r2,r3,r4,r5,r6,r7⟩:=H1.o.trns.get hlt
              have HXE:Hid (∃ x,x=m.trns[k]):=⟨_,rfl⟩
              have hdl:m.trns[k].tr.length<=100000:=HM.o.tr _ (List.getElem_mem hlt)
              obtain ⟨x,hxe⟩:=HXE.o
              rw [<- hxe] at r0 r1 r2 r4 r5 r6 r7 hsd hdl
              have HXQ:=hid hxe
              clear hxe HXE
              obtain ⟨da,dc,rfl⟩:=hsd.len
              have hwo:=hs.bel
              have hsd:=hsd.kept (Kept.of_below hwo)
              replace r0:=(hwo.cell (p:=⟨b1,o1+k * 8,none⟩) hb1).trans r0
              replace r1:=(hwo.cell (p:=⟨b1,o1+k * 8+1,none⟩) hb1).trans r1
              replace r2:=(hwo.cell (p:=⟨b1,o1+k * 8+2,none⟩) hb1).trans r2
              replace r3:=(hwo.cell (p:=⟨b1,o1+k * 8+3,none⟩) hb1).trans r3
              replace r4:=(hwo.cell (p:=⟨b1,o1+k * 8+4,none⟩) hb1).trans r4
              replace r5:=(hwo.cell (p:=⟨b1,o1+k * 8+5,none⟩) hb1).trans r5
              replace r6:=(hwo.cell (p:=⟨b1,o1+k * 8+6,none⟩) hb1).trans r6
              replace r7:=(hwo.cell (p:=⟨b1,o1+k * 8+7,none⟩) hb1).trans r7
              have hbo:b1<wo.heap.size:=Nat.lt_of_lt_of_le hb1 hwo.size
              obtain ⟨css,hcl,hown,hX⟩:=hr
              have HXX:=hid hX
              have hlen:(m.trns.take k).length=k:=List.length_take_of_le (by omega)
              rw [hlen] at hown
              have HCL:=hid hcl
              have hsz:=hs.z
              have HOB:Hid (∀ j,v5.ownBlock=some j->s4<=j/\j<wo.heap.size):=hown.lt
              obtain ⟨b0,b1',b2,b3,b4,b5,f0,f1,f2,f3,f4,f5⟩:=hs.src
              obtain ⟨d0,d1,d2,d3,d4,d5,g0,g1,g2,g3,g4,g5⟩:=hs.o
              rw [ha1] at b5
              have HA:=hid ha1
              have hz2:w.heap.size+1+1<wo.heap.size:=by omega
              have hz0:w.heap.size<wo.heap.size:=by omega
              have hz1:w.heap.size+1<wo.heap.size:=by omega
              have hz3:w.heap.size+1+1<wo.heap.size+1:=by omega
              have HFar:Hid (∀ (W' w6:World) (Z:Obj),Bl wo W'->(W'.alloc Z).grownBy w6 v5.ownBlock->w6.cell? ⟨w.heap.size+1+1,5,none⟩=some v5/\w6.frozen? ⟨w.heap.size+1+1,5,none⟩=false):=fun W' w6 Z g hg=>by
                have hg1:=g.size
                have hf1:=hf.f3.h1
                have hne:some (w.heap.size+1+1)≠v5.ownBlock:=fun e=>by have:=(hown.lt _ e.symm).1;have:=hf.f3.h12;have:=hf.f3.h23;have:=hf.h34;omega
                refine ⟨(hg.cell_far ⟨w.heap.size+1+1,5,none⟩ (by simp;omega) hne).trans ?_,(hg.frozen_far ⟨w.heap.size+1+1,5,none⟩ (by simp;omega) hne).trans ?_⟩
                . exact ((g.alloc hg1 Z).cell (p:=⟨w.heap.size+1+1,5,none⟩) (by simp only;omega)).trans d5
                . exact ((g.alloc hg1 Z).frozen (p:=⟨w.heap.size+1+1,5,none⟩) (by simp only;omega)).trans g5
              rcases src_cells hsd with ⟨rfl,hnil⟩ | ⟨ad,rfl,hsrc⟩
              . have HNil:=hid hnil
                have HNew:Hid (∀ W',TrnX (NewB wo.heap.size W'.heap.size) W' [.string x.nm,.int .i64 x.src,.int .i64 x.tgt,.slice none 0 0,.int .i64 x.af,.string x.gd,.string x.ef,.int .u8 x.kd] x):=fun W'=>⟨.slice none 0 0,.inl ⟨_,_,rfl,hnil⟩,rfl⟩
                clear hs hX hcl hlen ha1 hf hsd hnil hwo
                go_wp2_with (first | (at_builtin;refine wpList_append_nilc rfl (.tmp 138) (.tmp 140) 28 rfl wo.heap.size 9 i9 1 Tryz.underlying28 h90 (.slice none 0 0) 0 [] rfl ⟨rfl,.inl ⟨rfl,rfl⟩⟩ dc (by show Value.slice none x.tr.length dc=_;rw [HNil.o];first | done | rfl) ?_) | (at_builtin;refine wpList_append_lies _ rfl (.tmp 144) (.tmp 146) 31 rfl s4 88 i4 _ 8 104 Tryz.underlying31 hk4 mz0 mz1 mz2 rfl (by decide) v5 k css.flatten rfl ((ownsRow_low hown (below_al2 wo _ _)).alloc _) ⟨wo.heap.size+1+1,0,none⟩ 1 1 [.string x.nm,.int .i64 x.src,.int .i64 x.tgt,.slice none 0 0,.int .i64 x.af,.string x.gd,.string x.ef,.int .u8 x.kd] rfl rfl (World.news_of_block (cs:=#[.string x.nm,.int .i64 x.src,.int .i64 x.tgt,.slice none 0 0,.int .i64 x.af,.string x.gd,.string x.ef,.int .u8 x.kd]) (t:=88) (fr:=(0,0)) (by have:=alloc1_at ((wo.alloc (.cells #[.string x.nm,.int .i64 x.src,.int .i64 x.tgt,.slice none x.tr.length dc,.int .i64 x.af,.string x.gd,.string x.ef,.int .u8 x.kd] 59)).alloc (.cells #[.string x.nm,.int .i64 x.src,.int .i64 x.tgt,.slice none 0 0,.int .i64 x.af,.string x.gd,.string x.ef,.int .u8 x.kd] 88)) (.cells #[.string x.nm,.int .i64 x.src,.int .i64 x.tgt,.slice none 0 0,.int .i64 x.af,.string x.gd,.string x.ef,.int .u8 x.kd] 88);simpa using this)) (by simp [Value.oneCell']) (by decide) (by unfold maxLen;omega) (by omega) (by simp;omega) (wo.heap.size+1+1+1) (by simp) ?_;intro gg cap2 w6 hown6 hgrow6 hat6 hlt6;obtain ⟨dd,gd⟩:=HFar.o _ _ _ (below_al2 wo _ _) hgrow6))
                go_roundw
                case rel=>exact ⟨k+1,by omega,by go_num,nextRd_of HS.o HFi.o hlt HXQ.o HCL.o HXX.o HOB.o (below_al2 wo _ _) hgrow6 (by simpa using hat6) (HNew.o _) rfl hown6⟩
                case measure=>simp [intOf] <;> omega
              . have HSrc:=hid hsrc
                clear hs hX hcl hlen ha1 hf hsd hsrc hwo
                go_wp2_with (first | (at_builtin;refine wpList_append_own _ rfl (.tmp 138) (.tmp 140) 28 rfl (wo.heap.size+2) 9 i9 (.string ⟨#[]⟩) 1 16 Tryz.underlying28 h90 h91 h92 h93 rfl (by decide) (.slice none 0 0) 0 [] rfl ⟨rfl,.inl ⟨rfl,rfl⟩⟩ ad x.tr.length dc (x.tr.map Value.string) rfl (by simp) (fun j u hj=>Lib.cell?_alloc_some _ (Lib.cell?_alloc_some _ (HSrc.o j u hj))) (oneS _) (by unfold maxLen;omega) (by omega) (by simp) ?_;intro dv' w5 hown5 hgrow5 hnil5;obtain ⟨ea,ec,rfl,hs5⟩:=slS_own (l:=x.tr) (by simpa using hown5);have g5:=(Below.refl ((wo.alloc (.cells #[.string x.nm,.int .i64 x.src,.int .i64 x.tgt,.slice (some ad) x.tr.length dc,.int .i64 x.af,.string x.gd,.string x.ef,.int .u8 x.kd] 59)).alloc (.cells #[.string x.nm,.int .i64 x.src,.int .i64 x.tgt,.slice none 0 0,.int .i64 x.af,.string x.gd,.string x.ef,.int .u8 x.kd] 88)).heap.size ((wo.alloc (.cells #[.string x.nm,.int .i64 x.src,.int .i64 x.tgt,.slice (some ad) x.tr.length dc,.int .i64 x.af,.string x.gd,.string x.ef,.int .u8 x.kd] 59)).alloc (.cells #[.string x.nm,.int .i64 x.src,.int .i64 x.tgt,.slice none 0 0,.int .i64 x.af,.string x.gd,.string x.ef,.int .u8 x.kd] 88))).grown hgrow5 (Nat.le_refl _) (fun j hj=>by cases hj);have g5':=below_box2 g5;have G':Bl wo (w5.setCell ⟨wo.heap.size+1,3,none⟩ (.slice ea x.tr.length ec)):=g5'.setCell (by simp) _;have y0:w5.cell? ⟨wo.heap.size+1,0,none⟩=some (.string x.nm):=box2_1 g5 (by simp);have y1:w5.cell? ⟨wo.heap.size+1,1,none⟩=some (.int .i64 x.src):=box2_1 g5 (by simp);have y2:w5.cell? ⟨wo.heap.size+1,2,none⟩=some (.int .i64 x.tgt):=box2_1 g5 (by simp);have y3:w5.cell? ⟨wo.heap.size+1,3,none⟩=some (.slice none 0 0):=box2_1 g5 (by simp);have y4:w5.cell? ⟨wo.heap.size+1,4,none⟩=some (.int .i64 x.af):=box2_1 g5 (by simp);have y5:w5.cell? ⟨wo.heap.size+1,5,none⟩=some (.string x.gd):=box2_1 g5 (by simp);have y6:w5.cell? ⟨wo.heap.size+1,6,none⟩=some (.string x.ef):=box2_1 g5 (by simp);have y7:w5.cell? ⟨wo.heap.size+1,7,none⟩=some (.int .u8 x.kd):=box2_1 g5 (by simp);have yf:w5.frozen? ⟨wo.heap.size+1,3,none⟩=false:=(g5.frozen (p:=⟨wo.heap.size+1,3,none⟩) (by simp)).trans (by simp);have dx:=(g5'.cell (p:=⟨w.heap.size+1+1,5,none⟩) hz2).trans d5;have hz5:wo.heap.size+1<w5.heap.size:=by have:=g5.size;simp at this;omega) | (at_builtin;refine wpList_append_lies _ rfl (.tmp 144) (.tmp 146) 31 rfl s4 88 i4 _ 8 104 Tryz.underlying31 hk4 mz0 mz1 mz2 rfl (by decide) v5 k css.flatten rfl ((ownsRow_low hown G').alloc _) ⟨w5.heap.size,0,none⟩ 1 1 [.string x.nm,.int .i64 x.src,.int .i64 x.tgt,.slice ea x.tr.length ec,.int .i64 x.af,.string x.gd,.string x.ef,.int .u8 x.kd] rfl rfl (World.news_of_block (cs:=#[.string x.nm,.int .i64 x.src,.int .i64 x.tgt,.slice ea x.tr.length ec,.int .i64 x.af,.string x.gd,.string x.ef,.int .u8 x.kd]) (t:=88) (fr:=(0,0)) (by have:=alloc1_at (w5.setCell ⟨wo.heap.size+1,3,none⟩ (.slice ea x.tr.length ec)) (.cells #[.string x.nm,.int .i64 x.src,.int .i64 x.tgt,.slice ea x.tr.length ec,.int .i64 x.af,.string x.gd,.string x.ef,.int .u8 x.kd] 88);simpa using this)) (by simp [Value.oneCell']) (by decide) (by unfold maxLen;omega) (by omega) (by simp;omega) (w5.heap.size+1) (by simp) ?_;intro gg cap2 w6 hown6 hgrow6 hat6 hlt6;obtain ⟨dd,gd⟩:=HFar.o _ _ _ G' hgrow6))
                go_roundw
                case rel=>exact ⟨k+1,by omega,by go_num,nextRd_of HS.o HFi.o hlt HXQ.o HCL.o HXX.o HOB.o G' hgrow6 (by simpa using hat6) ⟨_,(hs5.kept (NewB.kept_set (by omega))).weaken (fun _ _ hb=>hb.wide (by omega) (by simp)),rfl⟩ rfl hown6⟩
                case measure=>simp [intOf] <;> omega
            . have hke:k=m.trns.length:=by omega
              subst hke
              have HT5:Hid (TrD m s4 wo.heap.size v5 wo):=by
                have hr2:Rows (TrnX (InB s4 v5.ownBlock)) 88 8 s4 v5 m.trns wo:=by have:=hr;rw [List.take_length] at this;exact this
                exact hr2.done (by decide) fun cs x b o _ h hc=>(TrnX.elem h hc).weaken fun b hb hQ=>⟨hQ.1,hb⟩
              have hob:=hs.o
              obtain ⟨z0,z1,z2,z3,z4,z5,y0,y1,y2,y3,y4,y5⟩:=zeroR_box hs.res
              obtain ⟨b0,b1',b2,b3,b4,b5,f0,f1,f2,f3,f4,f5⟩:=hs.src
              obtain ⟨d0,d1,d2,d3,d4,d5,g0,g1,g2,g3,g4,g5⟩:=hs.o
              have hzz:=hs.z
              have hbel:=hs.bel
              obtain ⟨r,e1,e2,e3,e4,e5,HMod⟩:=ref_done HFi.o HT5.o
              subst e1 e2 e3 e4 e5
              clear hs hr hlt hf HFi hzb HT5 hob
              go_wp2_with fail
              refine bodyPost_ret (v:=mdV m r) (by simp [results,Tryz.results11,go_sem,mdV,z0,z1,z2,z3,z4,z5]) rfl ⟨r,rfl,HMod _ (fun lo hi hl=>?_) (fun lo hi hl=>?_),?_⟩
              . exact (((((NewB.kept_set (by omega)).trans (NewB.kept_set (by omega))).trans (NewB.kept_set (by omega))).trans (NewB.kept_set (by omega))).trans (NewB.kept_set (by omega))).trans (NewB.kept_set (by omega))
              . exact (((((MidB.kept_set (by omega)).trans (MidB.kept_set (by omega))).trans (MidB.kept_set (by omega))).trans (MidB.kept_set (by omega))).trans (MidB.kept_set (by omega))).trans (MidB.kept_set (by omega))
              . exact (((((hbel.setCell (by simp) _).setCell (by simp) _).setCell (by simp) _).setCell (by simp) _).setCell (by simp) _).setCell (by simp) _
theorem ref_any {Q:Nat->BP} (m:MdlD) (p:Ph) (w:World) (h:Mod Q w m p) (hm:Sml m) :
   Calls Tryz.prog 11 #[mdV m p] w (RefP m w) :=
 (ref_low m p w h hm).mono fun e w' ⟨r,he,hr,hb⟩=>⟨r,he,hr.any,hb⟩
end Go.Proofs
