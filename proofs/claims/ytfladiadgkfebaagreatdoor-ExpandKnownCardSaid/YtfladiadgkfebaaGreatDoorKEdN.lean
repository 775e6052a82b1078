/- A row of models whose rows are made one by one; 'refs' of the law 18. -/
import Derived.Test.YtfladiadgkfebaaGreatDoorKMdRg
import Derived.Test.YtfladiadgkfebaaGreatDoorKEmA
import Derived.Test.YtfladiadgkfebaaGreatDoorKEmIJ
namespace Go.Proofs
open Go.RowKit Go.Lx Go.Md Go.Shelf Go.BigFrame Go.Rgi
open Lib(hid)
set_option maxRecDepth 100000
set_option maxHeartbeats 0
set_option linter.unusedVariables false
def MdlX (R:BP) (w:World) (cs:List Value) (m:MdlD):Prop:=∃ p:Ph,Mod (fun _=>R) w m p/\cs=[.string m.nm,.slice p.a1 m.vars.length p.c1,.slice p.a2 m.evs.length p.c2,.slice p.a3 m.regs.length p.c3,.slice p.a4 m.vers.length p.c4,.slice p.a5 m.trns.length p.c5]
theorem Sl.hung {α:Type} {sz:Nat} {E:BP->World->Nat->Nat->α->Prop} (hE:∀ (R R':BP) (w w':World) (b o:Nat) (x:α),E R w b o x->(∀ j,w'.cell? ⟨b,o+j,none⟩=w.cell? ⟨b,o+j,none⟩)->Kept R w w'->(∀ b,b<w'.heap.size->R b w'.heap[b]? -> b<w.heap.size->R' b w'.heap[b]?)->E R' w' b o x)
   {R R':BP} {w w':World} {v:Value} {l:List α} (h:Sl R sz (E R) w v l) (hk:Kept R w w') (hr:∀ b,b<w'.heap.size->R b w'.heap[b]? -> b<w.heap.size->R' b w'.heap[b]?):Sl R' sz (E R') w' v l:=by
 rcases h with h | ⟨b,off,cap,rfl,h0,h1,h2,h3⟩
 . exact .inl h
 . have e:=hk.2 b h1 h2
   have hlt:b<w'.heap.size:=Nat.lt_of_lt_of_le h1 hk.1
   exact .inr ⟨b,off,cap,rfl,h0,hlt,hr b hlt (by rw [e];exact h2) h1,fun i hi=>hE _ _ _ _ _ _ _ (h3 i hi) (fun j=>hk.cell h1 h2) hk hr⟩
theorem MdlX.hung:Hung MdlX:=fun R R' w w' cs x ⟨p,hm,hc⟩ hk hr=>⟨p,⟨
 Sl.hung (E:=fun _=>VarE) (fun _ _ _ _ _ _ _ h hc _ _=>⟨(hc 0).trans h.1,(hc 1).trans h.2⟩) hm.vars hk hr,
 hm.evs.hung hk hr,
 Sl.hung (E:=fun _=>RegE) (fun _ _ _ _ _ _ _ h hc _ _=>⟨(hc 0).trans h.1,(hc 1).trans h.2⟩) hm.regs hk hr,
 Sl.hung (E:=VerE) (fun _ _ _ _ _ _ _ h hc hk hr=>by
   obtain ⟨dv,hd,h0,h1,h2,h3,h4,h5,h6,h7⟩:=h
   exact ⟨dv,hd.hung hk hr,(hc 0).trans h0,(hc 1).trans h1,(hc 2).trans h2,(hc 3).trans h3,(hc 4).trans h4,(hc 5).trans h5,(hc 6).trans h6,(hc 7).trans h7⟩) hm.vers hk hr,
 Sl.hung (E:=TrnE) (fun _ _ _ _ _ _ _ h hc hk hr=>by
   obtain ⟨dv,hd,h0,h1,h2,h3,h4,h5,h6,h7⟩:=h
   exact ⟨dv,hd.hung hk hr,(hc 0).trans h0,(hc 1).trans h1,(hc 2).trans h2,(hc 3).trans h3,(hc 4).trans h4,(hc 5).trans h5,(hc 6).trans h6,(hc 7).trans h7⟩) hm.trns hk hr⟩,hc⟩
theorem hung_row {α:Type} {X:BP->World->List Value->α->Prop} (hX:Hung X) {T s sz:Nat} {l:List α} {k gg cap2:Nat} {wo W' w6:World} {Z:Obj} {ob:Option Nat} {cs:List Value} {css:List (List Value)} (hlt:k<l.length) (hcl:css.length=(l.take k).length)
   (old:∀ i (h1:i<css.length) (h2:i<(l.take k).length),css[i].length=sz/\X (InB s ob) wo css[i] (l.take k)[i]) (hs:s<=wo.heap.size) (g:Bl wo W') (hgrow:(W'.alloc Z).grownBy w6 ob) (hob:∀ j,ob=some j->s<=j/\j<wo.heap.size)
   (hat:ob=some gg\/gg=W'.heap.size+1) (hnew:X (MidB wo.heap.size W'.heap.size) W' cs l[k]) (hc:cs.length=sz) (ho:w6.ownsRow s T sz (.slice (some ⟨gg,0,none⟩) (k+1) cap2) (k+1) (css.flatten ++ cs)) :
   Rows (X (InB s (some gg))) T sz s (.slice (some ⟨gg,0,none⟩) (k+1) cap2) (l.take (k+1)) w6:=by
 have hl:(l.take k).length=k:=List.length_take_of_le (by omega)
 have g1:=g.size
 have g2:=hgrow.size
 rw [World.size_alloc] at g2
 have hblk:∀ j,s<=j->j<wo.heap.size->some j≠ob->w6.heap[j]? = wo.heap[j]? := fun j h1 h2 h3=>by
   rw [hgrow.block j (by simp;omega) h3,Below.heap_alloc _ _ _ (by omega),g.block j h2]
 have hblk2:∀ j,wo.heap.size<=j->j<W'.heap.size->w6.heap[j]? = W'.heap[j]? := fun j h1 h2=>by
   rw [hgrow.block j (by simp;omega) (fun e=>by have:=(hob j e.symm).2;omega),Below.heap_alloc _ _ _ (by omega)]
 rw [List.take_succ_eq_append_getElem hlt]
 refine Rows.push css hcl (fun i h1 h2=>⟨(old i h1 h2).1,hX _ _ _ _ _ _ (old i h1 h2).2 ⟨by omega,fun j hj hQ=>hblk j hQ.1 hj hQ.2⟩ fun j hj hQ hj2=>⟨hQ.1,fun e=>?_⟩⟩) (by rw [hl];exact ho) hc (hX _ _ _ _ _ _ hnew ⟨by omega,fun j hj hQ=>hblk2 j hQ.1 hQ.2⟩ fun j hj hQ hj2=>⟨by have:=hQ.1;omega,fun e=>?_⟩)
 . injection e with e
   rcases hat with h | h
   . exact hQ.2 (by rw [h,e])
   . omega
 . injection e with e
   have h1:=hQ.1
   have h2:=hQ.2
   rcases hat with h | h
   . have:=(hob gg h).2;omega
   . omega
theorem Rows.lib {T s:Nat} {ob:Option Nat} {a:Option Addr} {c:Nat} {l:List MdlD} {w:World} (h:Rows (MdlX (InB s ob)) T 6 s (.slice a l.length c) l w):LibV w.heap.size w (.slice a l.length c) l:=by
 obtain ⟨a',c',e,hs⟩:=Rows.done (E:=ModE w.heap.size) h (by decide) fun cs x b o hl ⟨p,hm,hc⟩ hcell=>by
   subst hc
   exact ⟨p,hm.weaken fun _ b hb _=>hb,hcell 0 (by decide),hcell 1 (by decide),hcell 2 (by decide),hcell 3 (by decide),hcell 4 (by decide),hcell 5 (by decide)⟩
 rw [<- e] at hs
 exact hs.weaken (fun b hb _=>hb) fun _ _ _ h=>h
def RefsP (l:List MdlD) (w:World) (e:Ending) (w':World):Prop:=∃ a c,e=.returned (.slice a l.length c)/\LibV w'.heap.size w' (.slice a l.length c) l/\Bl w w'
theorem info_rMdl:(Tryz.prog.info? 33).map (fun i=>(i.zero,i.size,i.bytes))=some (some (.agg #[.string ⟨#[]⟩,.slice none 0 0,.slice none 0 0,.slice none 0 0,.slice none 0 0,.slice none 0 0]),6,136):=by kernel_rfl
theorem refs18_any (N:Nat) (l:List MdlD) (a:Option Addr) (c:Nat) (w:World) (hl:LibV N w (.slice a l.length c) l) (hN:N<=w.heap.size) (hll:l.length<=1000) (hs:∀ m ∈ l,Sml m) :
   Calls Tryz.prog 7 #[.slice a l.length c] w (RefsP l w):=by
 obtain ⟨iM,hiM,zM0,zM1,zM2⟩:=info_parts info_rMdl
 have HL:=hid fun wx (g:Bl w wx)=>LibV.below hl (g.mono hN)
 have HSm:=hid hs
 clear hl hs
 go_enter Tryz.func7,Tryz.ntmps7
 go_wp2_with fail
 go_loopw [3,4] (fun v i wr=>∃ k:Nat,k<=l.length/\i=.int .i64 k/\∃ a1 c1,v=.slice a1 k c1/\Rows (MdlX (InB w.heap.size (Value.slice a1 k c1).ownBlock)) 33 6 w.heap.size (.slice a1 k c1) (l.take k) wr/\Bl w wr) (fun _ i _=>l.length - (intOf i).toNat)
 case atStart=>exact ⟨0,by omega,rfl,none,0,rfl,Rows.start,Below.refl _ _⟩
 case round =>
  obtain ⟨wo,rfl⟩:=ex1 wr
  obtain ⟨k,hk,rfl,a1,c1,rfl,hr,hb⟩:=hrel
  by_cases hlt:k<l.length
  . have hkI:(k:Int)<(l.length:Int):=by omega
    have hk0:(0:Int)<=(k:Int):=by omega
    obtain ⟨m,hm⟩:=ex2 (l[k])
    obtain ⟨b1,o1,e1,hb1,pm,hmo,r0,r1,r2,r3,r4,r5⟩:=(HL.o wo hb).get hlt
    have hsm:=HSm.o _ (List.getElem_mem hlt)
    rw [hm] at hmo r0 r1 r2 r3 r4 r5 hsm
    have HRf:=hid (ref_low m pm wo hmo hsm)
    unfold mdV at HRf
    have hlk:(l.take k).length=k:=List.length_take_of_le (by omega)
    obtain ⟨css,hcl,hown,helem⟩:=hr
    rw [hlk] at hown
    have HOw:=hid hown
    have HEl:=hid helem
    have HCl:=hid hcl
    have HB:=hid hb
    have HMm:=hid hm
    have hbs:=hb.size
    subst e1
    clear hmo hsm hown helem hcl hb hm hlk
    go_upto_region 5 with fail
    go_wp2_with (first | ((with_reducible refine (HRf.o).mono ?_);rintro e w4 ⟨p4,rfl,hm4,g4⟩;unfold mdV) | (at_builtin;go_loud (refine wpList_append_lies _ rfl _ _ 25 rfl w.heap.size 33 iM _ 6 136 Tryz.underlying25 hiM zM0 zM1 zM2 rfl (by decide) _ k css.flatten rfl ((ownsRow_low HOw.o g4).alloc _) ⟨w4.heap.size,0,none⟩ 1 1 [.string m.nm,.slice p4.a1 m.vars.length p4.c1,.slice p4.a2 m.evs.length p4.c2,.slice p4.a3 m.regs.length p4.c3,.slice p4.a4 m.vers.length p4.c4,.slice p4.a5 m.trns.length p4.c5] rfl rfl (World.news_of_block (cs:=#[.string m.nm,.slice p4.a1 m.vars.length p4.c1,.slice p4.a2 m.evs.length p4.c2,.slice p4.a3 m.regs.length p4.c3,.slice p4.a4 m.vers.length p4.c4,.slice p4.a5 m.trns.length p4.c5]) (t:=33) (fr:=(0,0)) (alloc1_at w4 _)) (by simp [Value.oneCell']) (by decide) (by unfold maxLen;omega) (by omega) (by have:=g4.size;simp;omega) (w4.heap.size+1) (by simp) ?_;intro gg cap w6 hown6 hgrow6 hat6 hlt6)))
    have hx:=hung_row (X:=MdlX) MdlX.hung (l:=l) (k:=k) hlt HCl.o HEl.o hbs g4 hgrow6 (fun j hj=>HOw.o.lt j hj) hat6 (by rw [HMm.o];exact ⟨p4,hm4.weaken fun _ b hb hq=>⟨hq,hb⟩,rfl⟩) rfl hown6
    have HX:=hid hx
    have HB6:Hid (Bl w w6):=hid (HB.o.trans (((g4.trans ((below_al1 w4 (.cells #[.string m.nm,.slice p4.a1 m.vars.length p4.c1,.slice p4.a2 m.evs.length p4.c2,.slice p4.a3 m.regs.length p4.c3,.slice p4.a4 m.vers.length p4.c4,.slice p4.a5 m.trns.length p4.c5] 33)).mono g4.size)).mono hbs).grown hgrow6 (by have:=g4.size;simp;omega) (fun j hj=>(HOw.o.lt j hj).1)))
    clear hx hown6 hgrow6 hat6 hlt6 g4 hm4
    go_roundw
    case rel=>exact ⟨k+1,by omega,by go_num,_,_,rfl,HX.o,HB6.o⟩
    case measure=>simp [intOf] <;> omega
  . obtain rfl:k=l.length:=by omega
    rw [List.take_length] at hr
    have HLb:=hid hr.lib
    have HB:=hid hb
    clear hr hb
    go_wp2_with fail
    go_ret
    exact ⟨a1,c1,rfl,HLb.o,HB.o⟩
end Go.Proofs
