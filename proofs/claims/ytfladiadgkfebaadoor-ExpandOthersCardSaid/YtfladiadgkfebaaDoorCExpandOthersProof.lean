/- The law ExpandOthers returns true at every input, and leaves what came in as it was; its card, tied to the text of the program. Without condition. -/
import Derived.Test.YtfladiadgkfebaaDoorCards
import Derived.Test.YtfladiadgkfebaaDoorTie
import Derived.Test.YtfladiadgkfebaaDoorCMdLt
import Derived.Test.YtfladiadgkfebaaDoorCEwG
import Derived.ShutString
import Derived.ChangeOld
import Derived.SevenTiedAt
namespace Go.Proofs.YtfladiadgkfebaaDoor.expandOthers
open Go.ChangeShapes Go.WideShapes Go.ChangeAt Go.RowKit Go.Proofs.YtfladiadgkfebaaDoor
open Go.ChangeMaps (open_string shut_string)
set_option linter.unusedVariables false

set_option maxRecDepth 100000 in
theorem lifted (os:Os) (started:os.Started) (H:Type) (enc:TypeId × Value→H) :
   ReturnsInHanded {} Tryd.checked os 4 .any (fun w args=>(Rows.expandOthersSpec.pre enc Tryd.prog Tryd.f4 [] false w args∧laidMetH Tryd.prog laids w)∧sizedMet enc Tryd.prog Tryd.f4 (OpenSpec.ofChange Rows.expandOthersSpec) false w args)
     (Rows.expandOthersSpec.post enc Tryd.prog Tryd.f4 false true false false):=by
 refine lift_shaped (C:=Tryd.checked) (X:=fun w _=>laidMetH Tryd.prog laids w) (fun _ _ _ hh h=>h.of_heap hh) own started (by kernel_rfl) Tryd.func4
   (ChangeSpec.witness_shaped (enc:=enc) (C:=Tryd.checked) (os:=os) (X:=fun w _=>laidMetH Tryd.prog laids w) false (World.doorLaid Tryd.prog 400 os) #[.slice none 0 0,.agg #[.string ByteArray.empty,.slice none 0 0,.slice none 0 0,.slice none 0 0,.slice none 0 0,.slice none 0 0]] 8 rfl (World.shaped_of_RefB (by kernel_rfl) (by kernel_rfl)) (by kernel_rfl) (by kernel_rfl) (by kernel_rfl) (door_met os _)) ?_
 intro W base args ds gs before hval0 hW _ hsz hL hsh
 have hval:∀ (j:Nat) t v,Tryd.f4.params[j]? = some t→args[j]? = some v→Value.okWide Tryd.prog W .any base t v:=hval0
 have hW':=hW
 obtain ⟨p,q,hA0,hV,rfl,hfz,hnd⟩:=hW
 have hA:DataW.TrodAll enc Tryd.prog W 0 (fun _=>true) true Tryd.f4.params.toList args.toList ds p:=hA0
 rw [Tryd.params4] at hA hval hsz
 obtain ⟨v0,vs0,d0,ds0,p0,q0,hargs,rfl,rfl,h0,r0⟩:=trodAll_cons hA
 obtain ⟨v1,vs1,d1,ds1,p1,q1,rfl,rfl,rfl,h1,r1⟩:=trodAll_cons r0
 obtain ⟨rfl,rfl,rfl⟩:=trodAll_nil r1
 obtain rfl:args=#[v0,v1]:=by cases args;simp_all
 obtain ⟨rfl,rfl⟩:=trodVars_none hV
 have k0:=h0
 have lt0:∀ x ∈ p0,x.block<W.heap.size:=by obtain ⟨m,hm⟩:=k0;exact DataW.trod_lt m _ _ _ hm
 obtain ⟨li0,la0,lc0,rfl,lv0,ln0,lo0⟩:=libs_open (by obtain ⟨a,n,c,e⟩:=okWide_slice Tryd.underlying22 (hval 0 22 v0 rfl rfl);exact ⟨a,n,c,e⟩) h0 (wt_at hsz (j:=0) rfl rfl)
 have k1:=h1
 have lt1:∀ x ∈ p1,x.block<W.heap.size:=by obtain ⟨m,hm⟩:=k1;exact DataW.trod_lt m _ _ _ hm
 obtain ⟨m1,ph1,rfl,hm1,ok1⟩:=mdl_open (okWide_struct Tryd.underlying31 (hval 1 31 v1 rfl rfl)) h1 (wt_at hsz (j:=1) rfl rfl)
 have hT:=of_laid hL hsh
 clear hA0 hval0
 refine (expandOthers_any li0 la0 lc0 m1 ph1 W lv0 ln0 lo0 hm1 ok1 hT).mono fun e W' ⟨he,bel⟩=>?_
 subst he
 exact ⟨_,rfl,_,_,_,[],_,[],hW',trodAll_mk1 (shut_bool Tryd.underlying4 _),(trodAll_cons_mk (Below.trod laidOut (by kernel_rfl) (of_decide_eq_true (by kernel_rfl)) k0 bel lt0) (trodAll_cons_mk (Below.trod laidOut (by kernel_rfl) (of_decide_eq_true (by kernel_rfl)) k1 bel lt1) trodAll_mk0)),rfl,bel.frame _,fun h=>by cases h⟩

set_option maxRecDepth 100000 in
set_option maxHeartbeats 8000000 in
theorem closed:joinedFacts Tryd.pinned.checked.prog 4 Tryd.f4 Rows.expandOthersSpec Rows.expandOthersRow=true:=by
 unfold joinedFacts
 repeat' (with_reducible refine Bool.and_eq_true_iff.2 ⟨?_,?_⟩)
 all_goals (as_aux_lemma=>kernel_rfl)
theorem over:Rows.expandOthersRow.holds Tryd.pinned (OpenSpec.ofChange Rows.expandOthersSpec) :=
 OpenClaim.holds_of_wide 4 Tryd.f4 rfl rfl rfl rfl rfl rfl rfl ⟨rfl,rfl,rfl,rfl,rfl⟩ rfl rfl rfl rfl rfl (by kernel_rfl) Tryd.func4 closed
   (of_decide_eq_true (by kernel_rfl)) (by unfold Func.isWrapper;first | (rw [if_pos (by decide +kernel)];kernel_rfl) | (rw [if_neg (by decide +kernel)];exact ⟨rfl,rfl⟩))
   (fun os started H enc _=>lifted os started H enc)

theorem proved:Rows.ExpandOthersCardSaid :=
 Claim7.holds_tied_plain_at .later [] [.widerDeep] true (true, "37154e7c2ce4fc61b21613c8781eefd475f8a9d30a3d6ab15e09d45718a11de9") false
   over (fun _ h=>by cases h) (by kernel_rfl) (fun _ h=>by cases h) expandOthers_row_tie rfl ⟨rfl,rfl⟩ (by kernel_rfl) rfl
   (fun f fn hf hfn=>by
     obtain rfl:f=4:=Option.some.inj ((show Tryd.prog.funcNamed "hopscotch/hopscotchlaw18.ExpandOthers" = some 4 by kernel_rfl).symm.trans hf) |>.symm
     obtain rfl:fn=Tryd.f4:=(Option.some.inj (Tryd.func4.symm.trans hfn)).symm
     exact ⟨by kernel_rfl,fun j t ht=>by
       rw [Tryd.params4] at ht
       have hm:t ∈ [22,31]:=by simpa using Array.mem_of_getElem? ht
       have hall:([22,31].all fun u=>!Tryd.prog.wantsStandIn u)=true:=by kernel_rfl
       exact (show Tryd.prog.wantsStandIn t=false by simpa using List.all_eq_true.1 hall t hm)⟩)
   (by kernel_rfl)
#print axioms proved
end Go.Proofs.YtfladiadgkfebaaDoor.expandOthers
