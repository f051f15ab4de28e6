/- TokenForms returns true, and leaves all else alone; the card's variables are tied to the program's text. Condition: none of our own; the row's own list of package-level variables. -/
import Derived.Test.YtbjllhjbhdjfjaaDoorRows
import Derived.Test.YtbjllhjbhdjfjaaDoorTie
import Derived.Test.YtbjllhjbhdjfjaaDoorCards
import Derived.Test.YtbjllhjbhdjfjaaDoorCe3
import Derived.Test.YtbjllhjbhdjfjaaDoorCt1
import Derived.WalkKit
import Derived.ProofKit
import Derived.OpenShut
import Derived.ShutString
import Derived.Lay
import Derived.SevenTiedAt
import Derived.ChangeOld
import Derived.Below
namespace Go.Proofs.YtbjllhjbhdjfjaaDoor.TokenForms
open Go.ChangeShapes Go.WideShapes Go.ChangeAt Go.RowKit
open Go.ChangeMaps (open_string shut_string)
theorem own : ownKnob Tryd.prog.godebug = none := by kernel_rfl
set_option maxRecDepth 100000 in
theorem calls (W : World) (hT : Go.Dn.TabsIn W) : Calls Tryd.prog 5 #[] W fun e W' => e = .returned (.bool true) ∧ Below W.heap.size W W' := by
  exact Go.Dn.run_row Go.Dn.Dec.mixed Go.Dn.Dec.extOk Go.Dn.Dec.hname Tryd.func5 (by kernel_rfl) hT (Go.Dn.rk_run (Go.Dn.Dec.forms_s5)) (by simp only [Go.Dn.RVs]) fun _ _ h => Go.Dn.RD_true h
set_option maxRecDepth 100000 in
theorem lifted (os : Os) (started : os.Started) (H : Type) (enc : TypeId × Value → H) :
    ReturnsInHanded {} Tryd.checked os 5 .any (fun w args => (Rows.tokenFormsSpec.pre enc Tryd.prog Tryd.f5 Rows.tokenFormsRow.domain false w args ∧ laidMetH Tryd.prog Go.Dn.Dec.laid7 w) ∧ sizedMet enc Tryd.prog Tryd.f5 (OpenSpec.ofChange Rows.tokenFormsSpec) false w args)
      (Rows.tokenFormsSpec.post enc Tryd.prog Tryd.f5 false true false false) := by
  refine Go.Dn.Dec.returns_laid_shaped (C := Tryd.checked) (X := fun w _ => laidMetH Tryd.prog Go.Dn.Dec.laid7 w) (fun _ _ _ hh h => h.of_heap hh) own started (by kernel_rfl) Tryd.func5
    (ChangeSpec.witness_shaped (enc := enc) (C := Tryd.checked) (os := os) (X := fun w _ => laidMetH Tryd.prog Go.Dn.Dec.laid7 w) false (World.laidAll Tryd.prog os Go.Dn.Dec.laid7) #[] 8 (World.laidAll_os _ _ _)
      (World.shaped_of_ZipB (by kernel_rfl) (by kernel_rfl)) (by kernel_rfl) (by kernel_rfl) (by kernel_rfl)
      (by rw [MakeChecks.laidMetH_plain _ _ _ (by kernel_rfl)]; exact laidMet_laidAll _ (by kernel_rfl) (by kernel_rfl))) ?_
  intro W base args ds gs before hval0 hW hL hsh
  have hW' := hW
  obtain ⟨p, q, hA0, hV, rfl, _, _⟩ := hW
  have hA : DataW.TrodAll enc Tryd.prog W 0 (fun _ => true) true Tryd.f5.params.toList args.toList ds p := hA0
  rw [Tryd.params5] at hA
  obtain ⟨rfl, rfl, rfl⟩ := trodAll_none hA
  obtain ⟨rfl, rfl⟩ := trodVars_none hV
  refine (calls W (Go.Dn.Dec.tabs_of7 hsh hL)).mono fun e W' ⟨he, bel⟩ => ?_
  subst he
  exact ⟨_, rfl, _, _, _, [], _, [], hW', trodAll_mk1 (shut_bool Tryd.underlying4 _), trodAll_mk0, rfl, bel.frame _, fun h => by cases h⟩
theorem over : Rows.tokenFormsRow.holds Tryd.pinned (OpenSpec.ofChange Rows.tokenFormsSpec) :=
  OpenClaim.holds_of_wide 5 Tryd.f5 rfl rfl rfl rfl rfl rfl rfl ⟨rfl, rfl, rfl, rfl, rfl⟩ rfl rfl rfl rfl rfl (by kernel_rfl) Tryd.func5 (by kernel_rfl)
    (of_decide_eq_true (by kernel_rfl)) (by unfold Func.isWrapper; first | (rw [if_pos (by decide +kernel)]; kernel_rfl) | (rw [if_neg (by decide +kernel)]; exact ⟨rfl, rfl⟩))
    (fun os started H enc _ => lifted os started H enc)
end Go.Proofs.YtbjllhjbhdjfjaaDoor.TokenForms
namespace Go.Proofs.YtbjllhjbhdjfjaaDoor
/-- The card, under a short name, for the claim. -/
theorem tokenForms_holds : Rows.TokenFormsCardSaid :=
  Claim7.holds_tied_plain_at .later [] [.data, .data, .data, .data, .sentinel, .sentinel, .pinned] true (true, "279209ae91ff5121de9f434714fb95455404f576eeb2b9824cab6cdd4af32197") true
    TokenForms.over (fun _ h => by cases h) (by kernel_rfl) (fun _ h => by cases h) tokenForms_row_tie rfl ⟨rfl, rfl⟩ (by kernel_rfl) rfl
    (fun f fn hf hfn => by
      obtain rfl : f = 5 := Option.some.inj ((show Tryd.prog.funcNamed "assayer/assayerlaw5.TokenForms" = some 5 by kernel_rfl).symm.trans hf) |>.symm
      obtain rfl : fn = Tryd.f5 := (Option.some.inj (Tryd.func5.symm.trans hfn)).symm
      exact ⟨by kernel_rfl, fun j t ht => by
        rw [Tryd.params5] at ht
        simp at ht⟩)
    (by kernel_rfl)
end Go.Proofs.YtbjllhjbhdjfjaaDoor
