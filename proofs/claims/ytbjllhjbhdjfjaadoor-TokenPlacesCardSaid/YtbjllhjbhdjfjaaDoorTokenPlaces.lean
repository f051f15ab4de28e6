/- TokenPlaces returns true, whatever the input, and leaves all else alone; the card's variables are tied to the program's text. Condition: none of our own; the row's own list of package-level variables. -/
import Derived.Test.YtbjllhjbhdjfjaaDoorRows
import Derived.Test.YtbjllhjbhdjfjaaDoorTie
import Derived.Test.YtbjllhjbhdjfjaaDoorCards
import Derived.Test.YtbjllhjbhdjfjaaDoorCe3
import Derived.Test.YtbjllhjbhdjfjaaDoorCt1
import Derived.WalkKit
import Derived.ProofKit
import Derived.OpenShut
import Derived.ShutString
import Derived.Lay
import Derived.SevenTiedAt
import Derived.ChangeOld
import Derived.Below
namespace Go.Proofs.YtbjllhjbhdjfjaaDoor.TokenPlaces
open Go.ChangeShapes Go.WideShapes Go.ChangeAt Go.RowKit
open Go.ChangeMaps (open_string shut_string)
theorem own : ownKnob Tryd.prog.godebug = none := by kernel_rfl
set_option maxRecDepth 100000 in
theorem calls (W : World) (hT : Go.Dn.TabsIn W) (a0 : ByteArray) : Calls Tryd.prog 4 #[.string a0] W fun e W' => e = .returned (.bool true) ∧ Below W.heap.size W W' := by
  exact Go.Dn.run_row Go.Dn.Dec.mixed Go.Dn.Dec.extOk Go.Dn.Dec.hname Tryd.func4 (by kernel_rfl) hT (Go.Dn.rk_run (Go.Dn.Dec.places_s a0.data.toList)) (by simp only [Go.Dn.RVs]; exact ⟨_, _, rfl, rfl, rfl⟩) fun _ _ h => Go.Dn.RD_true h
set_option maxRecDepth 100000 in
theorem lifted (os : Os) (started : os.Started) (H : Type) (enc : TypeId × Value → H) :
    ReturnsInHanded {} Tryd.checked os 4 .any (fun w args => (Rows.tokenPlacesSpec.pre enc Tryd.prog Tryd.f4 Rows.tokenPlacesRow.domain false w args ∧ laidMetH Tryd.prog Go.Dn.Dec.laid7 w) ∧ sizedMet enc Tryd.prog Tryd.f4 (OpenSpec.ofChange Rows.tokenPlacesSpec) false w args)
      (Rows.tokenPlacesSpec.post enc Tryd.prog Tryd.f4 false true false false) := by
  refine Go.Dn.Dec.returns_laid_shaped (C := Tryd.checked) (X := fun w _ => laidMetH Tryd.prog Go.Dn.Dec.laid7 w) (fun _ _ _ hh h => h.of_heap hh) own started (by kernel_rfl) Tryd.func4
    (ChangeSpec.witness_shaped (enc := enc) (C := Tryd.checked) (os := os) (X := fun w _ => laidMetH Tryd.prog Go.Dn.Dec.laid7 w) false (World.laidAll Tryd.prog os Go.Dn.Dec.laid7) #[.string ⟨#[]⟩] 8 (World.laidAll_os _ _ _)
      (World.shaped_of_ZipB (by kernel_rfl) (by kernel_rfl)) (by kernel_rfl) (by kernel_rfl) (by kernel_rfl)
      (by rw [MakeChecks.laidMetH_plain _ _ _ (by kernel_rfl)]; exact laidMet_laidAll _ (by kernel_rfl) (by kernel_rfl))) ?_
  intro W base args ds gs before hval0 hW hL hsh
  have hval : ∀ (j : Nat) t v, Tryd.f4.params[j]? = some t → args[j]? = some v → Value.okWide Tryd.prog W .any base t v := hval0
  have hW' := hW
  obtain ⟨p, q, hA0, hV, rfl, _, _⟩ := hW
  have hA : DataW.TrodAll enc Tryd.prog W 0 (fun _ => true) true Tryd.f4.params.toList args.toList ds p := hA0
  rw [Tryd.params4] at hA hval
  obtain ⟨v0, d0, rfl, rfl, h0⟩ := trodAll_one hA
  obtain ⟨rfl, rfl⟩ := trodVars_none hV
  obtain ⟨a0, rfl, rfl, rfl, w0⟩ := open_string Tryd.underlying9 (hval 0 9 v0 rfl rfl) h0
  clear hA0 hval0
  refine (calls W (Go.Dn.Dec.tabs_of7 hsh hL) a0).mono fun e W' ⟨he, bel⟩ => ?_
  subst he
  exact ⟨_, rfl, _, _, _, [], _, [], hW', trodAll_mk1 (shut_bool Tryd.underlying4 _), trodAll_mk1 (shut_string Tryd.underlying9 w0), rfl, bel.frame _, fun h => by cases h⟩
theorem over : Rows.tokenPlacesRow.holds Tryd.pinned (OpenSpec.ofChange Rows.tokenPlacesSpec) :=
  OpenClaim.holds_of_wide 4 Tryd.f4 rfl rfl rfl rfl rfl rfl rfl ⟨rfl, rfl, rfl, rfl, rfl⟩ rfl rfl rfl rfl rfl (by kernel_rfl) Tryd.func4 (by kernel_rfl)
    (of_decide_eq_true (by kernel_rfl)) (by unfold Func.isWrapper; first | (rw [if_pos (by decide +kernel)]; kernel_rfl) | (rw [if_neg (by decide +kernel)]; exact ⟨rfl, rfl⟩))
    (fun os started H enc _ => lifted os started H enc)
end Go.Proofs.YtbjllhjbhdjfjaaDoor.TokenPlaces
namespace Go.Proofs.YtbjllhjbhdjfjaaDoor
/-- The card, under a short name, for the claim. -/
theorem tokenPlaces_holds : Rows.TokenPlacesCardSaid :=
  Claim7.holds_tied_plain_at .later [] [.data, .data, .data, .data, .sentinel, .sentinel, .pinned] true (true, "279209ae91ff5121de9f434714fb95455404f576eeb2b9824cab6cdd4af32197") true
    TokenPlaces.over (fun _ h => by cases h) (by kernel_rfl) (fun _ h => by cases h) tokenPlaces_row_tie rfl ⟨rfl, rfl⟩ (by kernel_rfl) rfl
    (fun f fn hf hfn => by
      obtain rfl : f = 4 := Option.some.inj ((show Tryd.prog.funcNamed "assayer/assayerlaw5.TokenPlaces" = some 4 by kernel_rfl).symm.trans hf) |>.symm
      obtain rfl : fn = Tryd.f4 := (Option.some.inj (Tryd.func4.symm.trans hfn)).symm
      exact ⟨by kernel_rfl, fun j t ht => by
        rw [Tryd.params4] at ht
        have hm : t ∈ [9] := by simpa using Array.mem_of_getElem? ht
        have hall : ([9].all fun u => !Tryd.prog.wantsStandIn u) = true := by kernel_rfl
        exact (show Tryd.prog.wantsStandIn t = false by simpa using List.all_eq_true.1 hall t hm)⟩)
    (by kernel_rfl)
end Go.Proofs.YtbjllhjbhdjfjaaDoor
