/- DecForms returns true, and leaves all else alone; the card's variables are tied to the program's text. Condition: none of our own; the row's own list of package-level variables. -/
import Derived.Test.YtdilnnjabjpocaaDoorRows
import Derived.Test.YtdilnnjabjpocaaDoorTie
import Derived.Test.YtdilnnjabjpocaaDoorCards
import Derived.Test.YtdilnnjabjpocaaDoorDe4
import Derived.Test.YtdilnnjabjpocaaDoorDe3
import Derived.WalkKit
import Derived.ProofKit
import Derived.OpenShut
import Derived.Lay
import Derived.SevenTiedAt
import Derived.ChangeOld
import Derived.Below
namespace Go.Proofs.YtdilnnjabjpocaaDoor.DecForms
open Go.ChangeShapes Go.WideShapes Go.ChangeAt Go.RowKit
theorem own : ownKnob Tryd.prog.godebug = none := by kernel_rfl
set_option maxRecDepth 100000 in
theorem calls (W : World) (hT : Go.Dn.TabsIn W) : Calls Tryd.prog 9 #[] W fun e W' => e = .returned (.bool true) ∧ Below W.heap.size W W' :=
  Go.Dn.run_row Go.Dn.Dec.mixed Go.Dn.Dec.extOk Go.Dn.Dec.hname Tryd.func9 (by kernel_rfl) hT (Go.Dn.rk_run Go.Dn.Dec.forms_s) (by simp only [Go.Dn.RVs]) fun _ _ h => Go.Dn.RD_true h
set_option maxRecDepth 100000 in
theorem lifted (os : Os) (started : os.Started) (H : Type) (enc : TypeId × Value → H) :
    ReturnsInHanded {} Tryd.checked os 9 .any (fun w args => (Rows.decFormsSpec.pre enc Tryd.prog Tryd.f9 Rows.decFormsRow.domain false w args ∧ laidMetH Tryd.prog Go.Dn.Dec.laid5 w) ∧ sizedMet enc Tryd.prog Tryd.f9 (OpenSpec.ofChange Rows.decFormsSpec) false w args)
      (Rows.decFormsSpec.post enc Tryd.prog Tryd.f9 false true false false) := by
  refine returnsInHanded_of_change_and (C := Tryd.checked) (X := fun w _ => laidMetH Tryd.prog Go.Dn.Dec.laid5 w) (fun _ _ _ hh h => h.of_heap hh) own started (by kernel_rfl) Tryd.func9
    (ChangeSpec.witness_shaped (enc := enc) (C := Tryd.checked) (os := os) (X := fun w _ => laidMetH Tryd.prog Go.Dn.Dec.laid5 w) false (World.laidAll Tryd.prog os Go.Dn.Dec.laid5) #[] 8 (World.laidAll_os _ _ _)
      (World.shaped_of_ZipB (by kernel_rfl) (by kernel_rfl)) (by kernel_rfl) (by kernel_rfl) (by kernel_rfl)
      (by rw [MakeChecks.laidMetH_plain _ _ _ (by kernel_rfl)]; exact laidMet_laidAll _ (by kernel_rfl) (by kernel_rfl))) ?_
  intro W base args ds gs before hval0 hW _ _ hL _
  have hW' := hW
  obtain ⟨p, q, hA0, hV, rfl, _, _⟩ := hW
  have hA : DataW.TrodAll enc Tryd.prog W 0 (fun _ => true) true Tryd.f9.params.toList args.toList ds p := hA0
  rw [Tryd.params9] at hA
  obtain ⟨rfl, rfl, rfl⟩ := trodAll_none hA
  obtain ⟨rfl, rfl⟩ := trodVars_none hV
  refine (calls W (Go.Dn.Dec.tabs_of hL)).mono fun e W' ⟨he, bel⟩ => ?_
  subst he
  exact ⟨_, rfl, _, _, _, [], _, [], hW', trodAll_mk1 (shut_bool Tryd.underlying4 _), trodAll_mk0, rfl, bel.frame _, fun h => by cases h⟩
theorem over : Rows.decFormsRow.holds Tryd.pinned (OpenSpec.ofChange Rows.decFormsSpec) :=
  OpenClaim.holds_of_wide 9 Tryd.f9 rfl rfl rfl rfl rfl rfl rfl ⟨rfl, rfl, rfl, rfl, rfl⟩ rfl rfl rfl rfl rfl (by kernel_rfl) Tryd.func9 (by kernel_rfl)
    (of_decide_eq_true (by kernel_rfl)) (by unfold Func.isWrapper; first | (rw [if_pos (by decide +kernel)]; kernel_rfl) | (rw [if_neg (by decide +kernel)]; exact ⟨rfl, rfl⟩))
    (fun os started H enc _ => lifted os started H enc)
end Go.Proofs.YtdilnnjabjpocaaDoor.DecForms
namespace Go.Proofs.YtdilnnjabjpocaaDoor
/-- The card, under a short name, for the claim. -/
theorem decForms_holds : Rows.DecFormsCardSaid :=
  Claim7.holds_tied_plain_at .later [] [.data, .data, .data, .data, .pinned] true (true, "20768537e31042e983facfb7c5fb2bf15512dbf0559c2273794941998e409c0e") false
    DecForms.over (fun _ h => by cases h) (by kernel_rfl) (fun _ h => by cases h) decForms_row_tie rfl ⟨rfl, rfl⟩ (by kernel_rfl) rfl
    (fun f fn hf hfn => by
      obtain rfl : f = 9 := Option.some.inj ((show Tryd.prog.funcNamed "assayer/assayerlaw4.DecForms" = some 9 by kernel_rfl).symm.trans hf) |>.symm
      obtain rfl : fn = Tryd.f9 := (Option.some.inj (Tryd.func9.symm.trans hfn)).symm
      exact ⟨by kernel_rfl, fun j t ht => by
        rw [Tryd.params9] at ht
        simp at ht⟩)
    (by kernel_rfl)
end Go.Proofs.YtdilnnjabjpocaaDoor
