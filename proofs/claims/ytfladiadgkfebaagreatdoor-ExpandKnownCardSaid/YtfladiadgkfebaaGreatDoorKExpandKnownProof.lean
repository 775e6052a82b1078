/- The law ExpandKnown returns true at every input, and leaves what came in as it was; its card, tied to the text of the program. Without condition. -/
import Derived.Test.YtfladiadgkfebaaGreatDoorCards
import Derived.Test.YtfladiadgkfebaaGreatDoorTie
import Derived.Test.YtfladiadgkfebaaGreatDoorKMdLt
import Derived.Test.YtfladiadgkfebaaGreatDoorKEwK
import Derived.ShutString
import Derived.ChangeOld
import Derived.SevenTiedAt
namespace Go.Proofs.YtfladiadgkfebaaGreatDoor.expandKnown
open Go.ChangeShapes Go.WideShapes Go.ChangeAt Go.RowKit Go.Proofs.YtfladiadgkfebaaGreatDoor
open Go.ChangeMaps (open_string shut_string)
set_option maxRecDepth 100000
set_option maxHeartbeats 0
set_option linter.unusedVariables false

theorem lifted (os:Os) (started:os.Started) (H:Type) (enc:TypeId × Value->H) :
   ReturnsInHanded {} Tryz.checked os 4 .any (fun w args=>(Rows.expandKnownSpec.pre enc Tryz.prog Tryz.f4 [] false w args/\laidMetH Tryz.prog laids w)/\sizedMet enc Tryz.prog Tryz.f4 (OpenSpec.ofChange Rows.expandKnownSpec) false w args)
     (Rows.expandKnownSpec.post enc Tryz.prog Tryz.f4 false true false false):=by
 refine lift_shaped (C:=Tryz.checked) (X:=fun w _=>laidMetH Tryz.prog laids w) (fun _ _ _ hh h=>h.of_heap hh) own started (by kernel_rfl) Tryz.func4
   (ChangeSpec.witness_shaped (enc:=enc) (C:=Tryz.checked) (os:=os) (X:=fun w _=>laidMetH Tryz.prog laids w) false (World.doorLaid Tryz.prog 400 os) #[] 8 rfl (World.shaped_of_RefB (by kernel_rfl) (by kernel_rfl)) (by kernel_rfl) (by kernel_rfl) (by kernel_rfl) (door_met os _)) ?_
 intro W base args ds gs before hval0 hW _ hsz hL hsh
 have hval:∀ (j:Nat) t v,Tryz.f4.params[j]? = some t->args[j]? = some v->Value.okWide Tryz.prog W .any base t v:=hval0
 have hW':=hW
 obtain ⟨p,q,hA0,hV,rfl,hfz,hnd⟩:=hW
 have hA:DataW.TrodAll enc Tryz.prog W 0 (fun _=>true) true Tryz.f4.params.toList args.toList ds p:=hA0
 rw [Tryz.params4] at hA hval hsz
 obtain ⟨rfl,rfl,rfl⟩:=trodAll_none hA
 obtain ⟨rfl,rfl⟩:=trodVars_none hV
 have hT:=of_laid hL hsh
 clear hA0 hval0
 refine (expandKnown_any W hT).mono fun e W' ⟨he,bel⟩=>?_
 subst he
 exact ⟨_,rfl,_,_,_,[],_,[],hW',trodAll_mk1 (shut_bool Tryz.underlying4 _),trodAll_mk0,rfl,bel.frame _,fun h=>by cases h⟩

theorem closed:joinedFacts Tryz.pinned.checked.prog 4 Tryz.f4 Rows.expandKnownSpec Rows.expandKnownRow=true:=by
 unfold joinedFacts
 repeat' (with_reducible refine Bool.and_eq_true_iff.2 ⟨?_,?_⟩)
 all_goals (as_aux_lemma=>kernel_rfl)
theorem over:Rows.expandKnownRow.holds Tryz.pinned (OpenSpec.ofChange Rows.expandKnownSpec) :=
 OpenClaim.holds_of_wide 4 Tryz.f4 rfl rfl rfl rfl rfl rfl rfl ⟨rfl,rfl,rfl,rfl,rfl⟩ rfl rfl rfl rfl rfl (by kernel_rfl) Tryz.func4 closed
   (of_decide_eq_true (by kernel_rfl)) (by unfold Func.isWrapper;first | (rw [if_pos (by decide +kernel)];kernel_rfl) | (rw [if_neg (by decide +kernel)];exact ⟨rfl,rfl⟩))
   (fun os started H enc _=>lifted os started H enc)

theorem proved:Rows.ExpandKnownCardSaid :=
 Claim7.holds_tied_plain_at .later [] [.widerDeep] true (true, "e9e6abd97df761057e9ecbe896e8bc64f5e868bf9cd5ae49318183cbaaa592ef") false
   over (fun _ h=>by cases h) (by kernel_rfl) (fun _ h=>by cases h) expandKnown_row_tie rfl ⟨rfl,rfl⟩ (by kernel_rfl) rfl
   (fun f fn hf hfn=>by
     obtain rfl:f=4:=Option.some.inj ((show Tryz.prog.funcNamed "hopscotch/hopscotchlaw18.ExpandKnown" = some 4 by kernel_rfl).symm.trans hf) |>.symm
     obtain rfl:fn=Tryz.f4:=(Option.some.inj (Tryz.func4.symm.trans hfn)).symm
     exact ⟨by kernel_rfl,fun j t ht=>by
       rw [Tryz.params4] at ht
       simp at ht⟩)
   (by kernel_rfl)
#print axioms proved
end Go.Proofs.YtfladiadgkfebaaGreatDoor.expandKnown
