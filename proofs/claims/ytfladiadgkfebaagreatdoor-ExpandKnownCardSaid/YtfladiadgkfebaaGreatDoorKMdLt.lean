/- What the listed variable and the shape of the world give the walks. -/
import Derived.Test.YtfladiadgkfebaaGreatDoorKMdIJ
import Derived.Deep.Slices
import Derived.Deep.OwnShut
import Derived.Deep.Strs
import Derived.SizedLaws
import Derived.Test.YtfladiadgkfebaaGreatDoorRows
import Derived.ProofKit
import Derived.LaidMore
import Derived.OpenShut
import Derived.Stop.Joined
import Derived.HandedShaped
import Derived.SliceStrings
namespace Go.Proofs.YtfladiadgkfebaaGreatDoor
open Go.ChangeShapes Go.WideShapes Go.ChangeAt Go.RowKit Go.Lx Go.Md
abbrev laids {H:Type}:List (String × DataW H):=[("hopscotch/lex.signs", Rows.laid_hopscotch_lex_signs)]
theorem own:ownKnob Tryz.prog.godebug=none:=by kernel_rfl
theorem gB:Tryz.prog.globalNamed "hopscotch/lex.signs" = some 0:=by kernel_rfl
theorem tB:(Tryz.prog.globals[0]?).map (·.type)=some 159:=by kernel_rfl
theorem door_met (os:Os) (args:Array Value):laidMetH Tryz.prog laids ((World.doorLaid Tryz.prog 400 os).forCall (fun _ _=>0) ⟨#[],args,[]⟩).memory :=
 laidMetH_of_parts3 (fuel:=8) (laidMet_of_run' 8 (by kernel_rfl) (by kernel_rfl)) (by kernel_rfl) (by kernel_rfl)
theorem c14:Tryz.prog.cellsOf 159=14:=by kernel_rfl
theorem cS:Tryz.prog.cellsOf 9=1:=by kernel_rfl

theorem lift_shaped {H:Type} {enc:TypeId × Value->H} {a:Assume} {C:Checked} {os:Os} {f:FuncId} {fn:Func} {s:ChangeSpec} {conds:List PathCond} {apart fresh handsOn again:Bool} {X:World->Array Value->Prop}
   (hX:∀ (w w':World) (args:Array Value),w.heap=w'.heap->X w args->X w' args)
   (own:ownKnob C.prog.godebug=none) (started:os.Started) (noInit:C.prog.inits.idxOf? f=none) (hfn:C.prog.funcs[f]? = some fn)
   (witness:∃ (w:World) (tape:Tape) (i:Input),w.os=os/\(w.forCall tape i).Shaped C.prog/\i.vars=[]/\Input.okWide C.prog (w.forCall tape i) .any w.heap.size f i /\
     ((s.pre enc C.prog fn conds apart (w.forCall tape i).memory i.args/\X (w.forCall tape i).memory i.args)/\sizedMet enc C.prog fn (OpenSpec.ofChange s) apart (w.forCall tape i).memory i.args)/\a.holds C.prog (lone (Frame.enter C.prog f i.args .normal) [] (w.forCall tape i)))
   (contract:∀ (W:World) (base:Nat) (args:Array Value) (ds gs:List (DataW H)) (before:List MemPlace),
     (∀ (j:Nat) t v,fn.params[j]? = some t->args[j]? = some v->Value.okWide C.prog W .any base t v) ->
     DataW.Whole enc C.prog fn.params.toList s.vars apart W args.toList ds gs before ->
     conds.all (PathCond.test C.prog ⟨fn.params.toList,ds,s.plain.varTypes C.prog,gs⟩)=true ->
     (DataW.weightsEach C.prog (fn.params.toList ++ s.plain.varTypes C.prog) (ds ++ gs)).all (· <= reachBytes)=true->X W args ->
     W.ShapedOpen C.prog ->
     Calls C.prog f args W fun e W'=>∃ v,e=.returned v/\s.post enc C.prog fn apart fresh handsOn again W args v W') :
   ReturnsInHanded a C os f .any (fun w args=>(s.pre enc C.prog fn conds apart w args/\X w args)/\sizedMet enc C.prog fn (OpenSpec.ofChange s) apart w args) (s.post enc C.prog fn apart fresh handsOn again):=by
 refine returnsInHanded_of_calls own started noInit witness ?_
 intro w tape i _ hsh _ hok hpre _
 obtain ⟨_,_,_,fn',hfn',_,_,_,_,hval⟩:=hok
 have e:fn'=fn:=Option.some.inj (hfn'.symm.trans hfn)
 subst e
 obtain ⟨⟨⟨ds,gs,before,hw,hc⟩,hx⟩,hz⟩:=hpre
 have hw':=DataW.Whole.of_heap (w':=w.forCall tape i) (by rfl) hw
 refine (contract (w.forCall tape i) w.heap.size i.args ds gs before hval hw' hc (hz.weights hw) (hX _ _ _ (by rfl) hx) hsh).mono fun e W' ⟨v,he,hp⟩=>?_
 subst he
 exact ChangeSpec.post_blind hp

theorem list14 {α:Type} {l:List α} (h:l.length=14):∃ a b c d e f g i j k m n o p,l=[a,b,c,d,e,f,g,i,j,k,m,n,o,p]:=by
 match l,h with
 | [a,b,c,d,e,f,g,i,j,k,m,n,o,p],_=>exact ⟨a,b,c,d,e,f,g,i,j,k,m,n,o,p,rfl⟩
theorem one_str {H:Type} {enc:TypeId × Value->H} {W:World} {m:Nat} {x:Value} {y:DataW H × List MemPlace} {l:List UInt8} {sp:Nat->Bool} {hd:Bool}
   (h:DataW.trod enc Tryz.prog W 0 sp hd m 9 [x]=some y) (hy:y.1=.lit (.string l)):x=.string ⟨l.toArray⟩:=by
 obtain ⟨s,e1,e2,_⟩:=DataW.trod_string Tryz.underlying9 h
 rw [e2] at hy
 simp at hy e1
 rw [e1,<- hy]
theorem of_laid {W:World} (h:laidMetH Tryz.prog laids W) (hsh:W.ShapedOpen Tryz.prog):Tab W:=by
 refine ⟨?_,cell_of_shapedOpen_int (zero:=#[.int .i64 0]) (t:=3) hsh (of_decide_eq_true (by kernel_rfl)) (by kernel_rfl) rfl (by kernel_rfl) (by kernel_rfl) Tryz.underlying3⟩
 rw [MakeChecks.laidMetH_plain _ _ _ (by kernel_rfl)] at h
 obtain ⟨ps,⟨g0,t0,cs0,f0,p0,q0,hg0,ht0,hv0,hd0,_,_⟩,_,_⟩:=h
 obtain rfl:=Option.some.inj (gB.symm.trans hg0)
 obtain rfl:=Option.some.inj (tB.symm.trans ht0)
 unfold World.var? at hv0
 rw [gB] at hv0
 simp only [Option.bind_some] at hv0
 cases ho:W.heap[0]? with
 | none=>rw [ho] at hv0;cases hv0
 | some o =>
  rw [ho] at hv0
  cases o with
  | cells cs t fr =>
   simp only [Option.some.injEq] at hv0
   subst hv0
   refine ⟨t,fr,?_⟩
   obtain ⟨xs,m1,rfl,hx1,hlen,hn3,hel⟩:=DataW.trod_array Tryz.underlying159 hd0
   rw [c14] at hlen
   rw [cS] at hel
   obtain ⟨l⟩:=cs
   simp only at hlen hel
   obtain ⟨a,b,c,d,e,f,g,i,j,k,m,n,o,p,rfl⟩:=list14 hlen
   obtain ⟨y0,y1,y2,y3,y4,y5,y6,y7,y8,y9,y10,y11,y12,y13,rfl⟩:=list14 hn3
   have h0:=hel 0 (by decide)
   have h1:=hel 1 (by decide)
   have h2:=hel 2 (by decide)
   have h3:=hel 3 (by decide)
   have h4:=hel 4 (by decide)
   have h5:=hel 5 (by decide)
   have h6:=hel 6 (by decide)
   have h7:=hel 7 (by decide)
   have h8:=hel 8 (by decide)
   have h9:=hel 9 (by decide)
   have h10:=hel 10 (by decide)
   have h11:=hel 11 (by decide)
   have h12:=hel 12 (by decide)
   have h13:=hel 13 (by decide)
   simp at h0 h1 h2 h3 h4 h5 h6 h7 h8 h9 h10 h11 h12 h13
   simp only [Prod.mk.injEq] at hx1
   have hx:=hx1.1
   simp [Rows.laid_hopscotch_lex_signs] at hx
   obtain ⟨e0,e1,e2,e3,e4,e5,e6,e7,e8,e9,e10,e11,e12,e13⟩:=hx
   obtain rfl:=one_str h0 e0.symm
   obtain rfl:=one_str h1 e1.symm
   obtain rfl:=one_str h2 e2.symm
   obtain rfl:=one_str h3 e3.symm
   obtain rfl:=one_str h4 e4.symm
   obtain rfl:=one_str h5 e5.symm
   obtain rfl:=one_str h6 e6.symm
   obtain rfl:=one_str h7 e7.symm
   obtain rfl:=one_str h8 e8.symm
   obtain rfl:=one_str h9 e9.symm
   obtain rfl:=one_str h10 e10.symm
   obtain rfl:=one_str h11 e11.symm
   obtain rfl:=one_str h12 e12.symm
   obtain rfl:=one_str h13 e13.symm
   rfl
  | _=>cases hv0
end Go.Proofs.YtfladiadgkfebaaGreatDoor
