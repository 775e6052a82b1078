/- A library in memory: models in a row; the maps of names and of sizes. -/
import Derived.Test.YtfladiadgkfebaaGreatDoorKIxAY
import Derived.StringKeys
namespace Go.Proofs
open Go.RowKit Go.Lx Go.Md Go.Maps
set_option linter.unusedVariables false
def ModE (N:Nat) (w:World) (b o:Nat) (x:MdlD):Prop:=∃ p:Ph,Mod (fun _=>OldB N) w x p/\w.cell? ⟨b,o,none⟩=some (.string x.nm)/\w.cell? ⟨b,o+1,none⟩=some (.slice p.a1 x.vars.length p.c1)/\w.cell? ⟨b,o+2,none⟩=some (.slice p.a2 x.evs.length p.c2) /\
 w.cell? ⟨b,o+3,none⟩=some (.slice p.a3 x.regs.length p.c3)/\w.cell? ⟨b,o+4,none⟩=some (.slice p.a4 x.vers.length p.c4)/\w.cell? ⟨b,o+5,none⟩=some (.slice p.a5 x.trns.length p.c5)
theorem ModE.mono {N:Nat}:Mono (OldB N) (OldB N) (ModE N):=fun w w' b o x ⟨p,hm,h0,h1,h2,h3,h4,h5⟩ hb hq hw hr=>by
 have hc:∀ j u,w.cell? ⟨b,o+j,none⟩=some u->w'.cell? ⟨b,o+j,none⟩=some u:=fun j u h=>(hw.cell hb hq).trans h
 exact ⟨p,hm.kept fun _=>hw,hc 0 _ h0,hc 1 _ h1,hc 2 _ h2,hc 3 _ h3,hc 4 _ h4,hc 5 _ h5⟩
def LibV (N:Nat) (w:World) (v:Value) (l:List MdlD):Prop:=Sl (OldB N) 6 (ModE N) w v l
theorem LibV.below {N:Nat} {w w':World} {v:Value} {l:List MdlD} (h:LibV N w v l) (g:Below N w w'):LibV N w' v l :=
 have hk:Kept (OldB N) w w':=⟨g.size,fun b _ hb=>g.block b hb⟩
 h.kept ModE.mono hk hk
def MapG {κ:Type} (K:TypeId) (kl:κ->Lit) (z:Value) (b cnt:Nat) (f:κ->Option Value) (w:World):Prop:=∃ D,w.ownsMap Tryz.prog K holdR b cnt D/\∀ s:κ,has D (kl s)=(f s).isSome/\D.atKey (kl s) (.held z)=.held ((f s).getD z)
theorem MapG.made {κ:Type} {K:TypeId} {kl:κ->Lit} {z:Value} {w:World} {b:Nat} (h:w.heap[b]? = some (.map #[] 0)):MapG K kl z b 0 (fun _=>none) w :=
 ⟨.map [],⟨#[],0,h,⟨by simp,MapKept.stamped_empty 0,by simp⟩,Nat.le_refl _,rfl⟩,fun _=>⟨rfl,rfl⟩⟩
theorem MapG.keep {κ:Type} {K:TypeId} {kl:κ->Lit} {z:Value} {b cnt:Nat} {f:κ->Option Value} {w w':World} (h:MapG K kl z b cnt f w) (hk:w'.heap[b]? = w.heap[b]?):MapG K kl z b cnt f w':=by
 obtain ⟨D,⟨es,ck,hb,r⟩,hD⟩:=h
 exact ⟨D,⟨es,ck,hk.trans hb,r⟩,hD⟩
theorem MapG.lt {κ:Type} {K:TypeId} {kl:κ->Lit} {z:Value} {b cnt:Nat} {f:κ->Option Value} {w:World} (h:MapG K kl z b cnt f w):b<w.heap.size:=by
 obtain ⟨D,ho,_⟩:=h;exact ho.lt
theorem MapG.look {κ:Type} {K T E:TypeId} {kl:κ->Lit} {z:Value} {b cnt:Nat} {f:κ->Option Value} {w:World} (h:MapG K kl z b cnt f w) (hK:Keyed Tryz.prog K) (hT:Tryz.prog.underlying T=some (.map K E)) (hz:∀ w:World,(zeroValue E).run Tryz.prog w=.ok z w) {s:κ} {key:Value} (hs:keyOf Tryz.prog K key=some (kl s)) :
   (Instr.lookup T (.map (some b)) key true).run Tryz.prog w=.ok (.tuple #[(f s).getD z,.bool (f s).isSome]) w:=by
 obtain ⟨D,ho,hD⟩:=h
 obtain ⟨v,ps,hrun,hv⟩:=ho.look_ok (t:=T) (e:=E) hK hT (hz w) (zd:=.held z) (zp:=[]) rfl hs
 rw [(hD s).2] at hv
 simp only [holdR,Option.some.injEq,Prod.mk.injEq,DataW.held.injEq] at hv
 rw [hrun,hv.1,(hD s).1]
theorem MapG.put {κ:Type} [DecidableEq κ] {K T E:TypeId} {kl:κ->Lit} {z:Value} {b cnt:Nat} {f:κ->Option Value} {w:World} (h:MapG K kl z b cnt f w) (hK:Keyed Tryz.prog K) (hT:Tryz.prog.underlying T=some (.map K E)) (hc:cnt<100000) (hi:∀ s t,kl s=kl t->s=t) (hl:∀ s,WideAt.IsKeyLit (kl s)) {s:κ} {key:Value} (hs:keyOf Tryz.prog K key=some (kl s)) (v:Value) :
   ∃ w',(Instr.mapUpdate T (.map (some b)) key v).run Tryz.prog w=.ok () w'/\MapG K kl z b (cnt+1) (fun t=>if t=s then some v else f t) w'/\w.grownBy w' (some b):=by
 obtain ⟨D,ho,hD⟩:=h
 obtain ⟨w',hrun,ho',hg⟩:=ho.update (t:=T) (e:=E) hK hT (by unfold maxLen;omega) hs (val:=v) (d:=.held v) (ps:=[]) rfl
 refine ⟨w',hrun,⟨_,ho',fun t=>?_⟩,hg⟩
 by_cases ht:t=s
 . subst ht
   simp only [if_pos]
   obtain ⟨es,ck,_,_,_,hDD⟩:=ho
   exact ⟨has_put_same ⟨_,hDD⟩ (hl t) _,atKey_put_same ⟨_,hDD⟩ (hl t) _ _⟩
 . simp only [if_neg ht]
   have hne:kl t≠kl s:=fun e=>ht (hi _ _ e)
   exact ⟨(has_put_other hne _).trans (hD t).1,(atKey_put_other hne _ _).trans (hD t).2⟩
theorem str_key:Keyed Tryz.prog 9:=string_keyed Tryz.underlying9
def klS (s:ByteArray):Lit:=.string s.data.toList
def klI (i:Int):Lit:=.int .i64 i
theorem klS_inj (s t:ByteArray) (h:klS s=klS t):s=t:=by
 unfold klS at h
 injection h with h
 exact ba_ext h
theorem klI_inj (s t:Int) (h:klI s=klI t):s=t:=by
 unfold klI at h;injection h
abbrev NamAt (b cnt:Nat) (f:ByteArray->Option Value) (w:World):Prop:=MapG 9 klS (.int .i64 0) b cnt f w
def zS:Value:=.agg #[.int .i64 0,.int .i64 0,.int .i64 0]
abbrev SizAt (b cnt:Nat) (f:Int->Option Value) (w:World):Prop:=MapG 3 klI zS b cnt f w
end Go.Proofs
