/- The law LegalKnown returns true at every input, and leaves what came in as it was; its card, tied to the text of the program. Without condition. -/
import Derived.Test.YtiimoclbmaggjaaGreatDoorCards
import Derived.Test.YtiimoclbmaggjaaGreatDoorTie
import Derived.Test.YtiimoclbmaggjaaGreatDoorLMdLt
import Derived.Test.YtiimoclbmaggjaaGreatDoorLKnL
import Derived.ShutString
import Derived.ChangeOld
import Derived.SevenTiedAt
namespace Go.Proofs.YtiimoclbmaggjaaGreatDoor.legalKnown
open Go.ChangeShapes Go.WideShapes Go.ChangeAt Go.RowKit Go.Proofs.YtiimoclbmaggjaaGreatDoor
open Go.ChangeMaps (open_string shut_string)
set_option linter.unusedVariables false

set_option maxRecDepth 100000 in
theorem lifted (os:Os) (started:os.Started) (H:Type) (enc:TypeId × Value→H) :
   ReturnsInHanded {} Tryz.checked os 7 .any (fun w args=>(Rows.legalKnownSpec.pre enc Tryz.prog Tryz.f7 [] false w args∧laidMetH Tryz.prog laids w)∧sizedMet enc Tryz.prog Tryz.f7 (OpenSpec.ofChange Rows.legalKnownSpec) false w args)
     (Rows.legalKnownSpec.post enc Tryz.prog Tryz.f7 false true false false):=by
 refine lift_shaped (C:=Tryz.checked) (X:=fun w _=>laidMetH Tryz.prog laids w) (fun _ _ _ hh h=>h.of_heap hh) own started (by kernel_rfl) Tryz.func7
   (ChangeSpec.witness_shaped (enc:=enc) (C:=Tryz.checked) (os:=os) (X:=fun w _=>laidMetH Tryz.prog laids w) false (World.doorLaid Tryz.prog 400 os) #[] 8 rfl (World.shaped_of_RefB (by kernel_rfl) (by kernel_rfl)) (by kernel_rfl) (by kernel_rfl) (by kernel_rfl) (door_met os _)) ?_
 intro W base args ds gs before hval0 hW _ hsz hL hsh
 have hval:∀ (j:Nat) t v,Tryz.f7.params[j]? = some t→args[j]? = some v→Value.okWide Tryz.prog W .any base t v:=hval0
 have hW':=hW
 obtain ⟨p,q,hA0,hV,rfl,hfz,hnd⟩:=hW
 have hA:DataW.TrodAll enc Tryz.prog W 0 (fun _=>true) true Tryz.f7.params.toList args.toList ds p:=hA0
 rw [Tryz.params7] at hA hval hsz
 obtain ⟨rfl,rfl,rfl⟩:=trodAll_none hA
 obtain ⟨rfl,rfl⟩:=trodVars_none hV
 have hT:=of_laid hL hsh
 clear hA0 hval0
 refine (legalKnown_any W hT).mono fun e W' ⟨he,bel⟩=>?_
 subst he
 exact ⟨_,rfl,_,_,_,[],_,[],hW',trodAll_mk1 (shut_bool Tryz.underlying4 _),trodAll_mk0,rfl,bel.frame _,fun h=>by cases h⟩

set_option maxRecDepth 100000 in
set_option maxHeartbeats 8000000 in
theorem closed:joinedFacts Tryz.pinned.checked.prog 7 Tryz.f7 Rows.legalKnownSpec Rows.legalKnownRow=true:=by
 unfold joinedFacts
 repeat' (with_reducible refine Bool.and_eq_true_iff.2 ⟨?_,?_⟩)
 all_goals (as_aux_lemma=>kernel_rfl)
theorem over:Rows.legalKnownRow.holds Tryz.pinned (OpenSpec.ofChange Rows.legalKnownSpec) :=
 OpenClaim.holds_of_wide 7 Tryz.f7 rfl rfl rfl rfl rfl rfl rfl ⟨rfl,rfl,rfl,rfl,rfl⟩ rfl rfl rfl rfl rfl (by kernel_rfl) Tryz.func7 closed
   (of_decide_eq_true (by kernel_rfl)) (by unfold Func.isWrapper;first | (rw [if_pos (by decide +kernel)];kernel_rfl) | (rw [if_neg (by decide +kernel)];exact ⟨rfl,rfl⟩))
   (fun os started H enc _=>lifted os started H enc)

theorem proved:Rows.LegalKnownCardSaid :=
 Claim7.holds_tied_plain_at .later [] [.widerDeep] true (true, "0b988834220abf95ef855026d1f3c8e7392ee74630e60dd3328e2cc776cf8639") false
   over (fun _ h=>by cases h) (by kernel_rfl) (fun _ h=>by cases h) legalKnown_row_tie rfl ⟨rfl,rfl⟩ (by kernel_rfl) rfl
   (fun f fn hf hfn=>by
     obtain rfl:f=7:=Option.some.inj ((show Tryz.prog.funcNamed "hopscotch/hopscotchlaw26.LegalKnown" = some 7 by kernel_rfl).symm.trans hf) |>.symm
     obtain rfl:fn=Tryz.f7:=(Option.some.inj (Tryz.func7.symm.trans hfn)).symm
     exact ⟨by kernel_rfl,fun j t ht=>by
       rw [Tryz.params7] at ht
       simp at ht⟩)
   (by kernel_rfl)
#print axioms proved
end Go.Proofs.YtiimoclbmaggjaaGreatDoor.legalKnown
