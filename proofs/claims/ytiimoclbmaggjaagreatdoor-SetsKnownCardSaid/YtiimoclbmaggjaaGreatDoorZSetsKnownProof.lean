/- The law SetsKnown returns true at every input, and leaves what came in as it was; its card, tied to the text of the program. Without condition. -/
import Derived.Test.YtiimoclbmaggjaaGreatDoorCards
import Derived.Test.YtiimoclbmaggjaaGreatDoorTie
import Derived.Test.YtiimoclbmaggjaaGreatDoorZMdLt
import Derived.Test.YtiimoclbmaggjaaGreatDoorZKnKT
import Derived.ShutString
import Derived.ChangeOld
import Derived.SevenTiedAt
namespace Go.Proofs.YtiimoclbmaggjaaGreatDoor.setsKnown
open Go.ChangeShapes Go.WideShapes Go.ChangeAt Go.RowKit Go.Proofs.YtiimoclbmaggjaaGreatDoor
open Go.ChangeMaps (open_string shut_string)
open Go.Proofs.Tryz
set_option maxRecDepth 100000
set_option maxHeartbeats 0
set_option linter.unusedVariables false

theorem lifted (os:Os) (started:os.Started) (H:Type) (enc:TypeId × Value->H) :
   ReturnsInHanded {} Tryz.checked os 8 .any (fun w args=>(Rows.setsKnownSpec.pre enc prog Tryz.f8 [] false w args/\laidMetH prog laids w)/\sizedMet enc prog Tryz.f8 (OpenSpec.ofChange Rows.setsKnownSpec) false w args)
     (Rows.setsKnownSpec.post enc prog Tryz.f8 false true false false):=by
 refine zco (C:=Tryz.checked) (X:=fun w _=>laidMetH prog laids w) (fun _ _ _ hh h=>h.of_heap hh) own started (by kernel_rfl) func8
   (ChangeSpec.witness_shaped (enc:=enc) (C:=Tryz.checked) (os:=os) (X:=fun w _=>laidMetH prog laids w) false (World.doorLaid prog 400 os) #[] 8 rfl (World.shaped_of_RefB (by kernel_rfl) (by kernel_rfl)) (by kernel_rfl) (by kernel_rfl) (by kernel_rfl) (door_met os _)) ?_
 intro W base args ds gs before hval0 hW _ hsz hL hsh;have hval:∀ (j:Nat) t v,Tryz.f8.params[j]? = some t->args[j]? = some v->Value.okWide prog W .any base t v:=hval0;have hW':=hW;obtain ⟨p,q,hA0,hV,rfl,hfz,hnd⟩:=hW;have hA:DataW.TrodAll enc prog W 0 (fun _=>true) true Tryz.f8.params.toList args.toList ds p:=hA0;rw [Tryz.params8] at hA hval hsz;obtain ⟨rfl,rfl,rfl⟩:=trodAll_none hA;obtain ⟨rfl,rfl⟩:=trodVars_none hV;have hT:=of_laid hL hsh;clear hA0 hval0;refine (zaV W hT).mono fun e W' ⟨he,bel⟩=>?_;subst he;exact ⟨_,rfl,_,_,_,[],_,[],hW',trodAll_mk1 (shut_bool underlying4 _),trodAll_mk0,rfl,bel.frame _,fun h=>by cases h⟩

theorem closed:joinedFacts Tryz.pinned.checked.prog 8 Tryz.f8 Rows.setsKnownSpec Rows.setsKnownRow=true:=by
 unfold joinedFacts
 repeat' (with_reducible refine Bool.and_eq_true_iff.2 ⟨?_,?_⟩)
 all_goals (as_aux_lemma=>kernel_rfl)
theorem over:Rows.setsKnownRow.holds Tryz.pinned (OpenSpec.ofChange Rows.setsKnownSpec) :=
 OpenClaim.holds_of_wide 8 Tryz.f8 rfl rfl rfl rfl rfl rfl rfl ⟨rfl,rfl,rfl,rfl,rfl⟩ rfl rfl rfl rfl rfl (by kernel_rfl) func8 closed
   (of_decide_eq_true (by kernel_rfl)) (by unfold Func.isWrapper;first | (rw [if_pos (by decide +kernel)];kernel_rfl) | (rw [if_neg (by decide +kernel)];exact ⟨rfl,rfl⟩))
   (fun os started H enc _=>lifted os started H enc)

theorem proved:Rows.SetsKnownCardSaid :=
 Claim7.holds_tied_plain_at .later [] [.widerDeep] true (true, "0b988834220abf95ef855026d1f3c8e7392ee74630e60dd3328e2cc776cf8639") false
   over (fun _ h=>by cases h) (by kernel_rfl) (fun _ h=>by cases h) setsKnown_row_tie rfl ⟨rfl,rfl⟩ (by kernel_rfl) rfl
   (fun f fn hf hfn=>by
     obtain rfl:f=8:=Option.some.inj ((show prog.funcNamed "hopscotch/hopscotchlaw20.SetsKnown" = some 8 by kernel_rfl).symm.trans hf) |>.symm
     obtain rfl:fn=Tryz.f8:=(Option.some.inj (func8.symm.trans hfn)).symm
     exact ⟨by kernel_rfl,fun j t ht=>by
       rw [Tryz.params8] at ht;simp at ht⟩)
   (by kernel_rfl)
#print axioms proved
end Go.Proofs.YtiimoclbmaggjaaGreatDoor.setsKnown
