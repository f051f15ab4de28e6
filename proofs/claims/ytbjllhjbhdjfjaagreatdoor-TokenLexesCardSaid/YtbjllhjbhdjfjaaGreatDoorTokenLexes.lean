/- TokenLexes returns true, whatever the input, and leaves all else alone; the card's variables are tied to the program's text. Condition: none of our own; the row's own list of package-level variables. -/
import Derived.Test.YtbjllhjbhdjfjaaGreatDoorRows
import Derived.Test.YtbjllhjbhdjfjaaGreatDoorTie
import Derived.Test.YtbjllhjbhdjfjaaGreatDoorCards
import Derived.Test.YtbjllhjbhdjfjaaGreatDoorZe3
import Derived.Test.YtbjllhjbhdjfjaaGreatDoorZl2
import Derived.WalkKit
import Derived.ProofKit
import Derived.OpenShut
import Derived.ShutString
import Derived.Lay
import Derived.SevenTiedAt
import Derived.ChangeOld
import Derived.Below
namespace Go.Proofs.YtbjllhjbhdjfjaaGreatDoor.TokenLexes
open Go.ChangeShapes Go.WideShapes Go.ChangeAt Go.RowKit
open Go.ChangeMaps (open_string shut_string)
theorem own : ownKnob Tryz.prog.godebug = none := by kernel_rfl
set_option maxRecDepth 100000 in
theorem calls (W : World) (hT : Go.Dn.TabsIn W) (a0 : ByteArray) : Calls Tryz.prog 6 #[.string a0] W fun e W' => e = .returned (.bool true) ∧ Below W.heap.size W W' := by
  exact Go.Dn.run_row Go.Dn.Dec.mixed Go.Dn.Dec.extOk Go.Dn.Dec.hname Tryz.func6 (by kernel_rfl) hT (Go.Dn.rk_run (Go.Dn.Dec.lexes_s a0.data.toList)) (by simp only [Go.Dn.RVs]; exact ⟨_, _, rfl, rfl, rfl⟩) fun _ _ h => Go.Dn.RD_true h
set_option maxRecDepth 100000 in
theorem lifted (os : Os) (started : os.Started) (H : Type) (enc : TypeId × Value → H) :
    ReturnsInHanded {} Tryz.checked os 6 .any (fun w args => (Rows.tokenLexesSpec.pre enc Tryz.prog Tryz.f6 Rows.tokenLexesRow.domain false w args ∧ laidMetH Tryz.prog Go.Dn.Dec.laid7 w) ∧ sizedMet enc Tryz.prog Tryz.f6 (OpenSpec.ofChange Rows.tokenLexesSpec) false w args)
      (Rows.tokenLexesSpec.post enc Tryz.prog Tryz.f6 false true false false) := by
  refine Go.Dn.Dec.returns_laid_shaped (C := Tryz.checked) (X := fun w _ => laidMetH Tryz.prog Go.Dn.Dec.laid7 w) (fun _ _ _ hh h => h.of_heap hh) own started (by kernel_rfl) Tryz.func6
    (ChangeSpec.witness_shaped (enc := enc) (C := Tryz.checked) (os := os) (X := fun w _ => laidMetH Tryz.prog Go.Dn.Dec.laid7 w) false (World.laidAll Tryz.prog os Go.Dn.Dec.laid7) #[.string ⟨#[]⟩] 8 (World.laidAll_os _ _ _)
      (World.shaped_of_ZipB (by kernel_rfl) (by kernel_rfl)) (by kernel_rfl) (by kernel_rfl) (by kernel_rfl)
      (by rw [MakeChecks.laidMetH_plain _ _ _ (by kernel_rfl)]; exact laidMet_laidAll _ (by kernel_rfl) (by kernel_rfl))) ?_
  intro W base args ds gs before hval0 hW hL hsh
  have hval : ∀ (j : Nat) t v, Tryz.f6.params[j]? = some t → args[j]? = some v → Value.okWide Tryz.prog W .any base t v := hval0
  have hW' := hW
  obtain ⟨p, q, hA0, hV, rfl, _, _⟩ := hW
  have hA : DataW.TrodAll enc Tryz.prog W 0 (fun _ => true) true Tryz.f6.params.toList args.toList ds p := hA0
  rw [Tryz.params6] at hA hval
  obtain ⟨v0, d0, rfl, rfl, h0⟩ := trodAll_one hA
  obtain ⟨rfl, rfl⟩ := trodVars_none hV
  obtain ⟨a0, rfl, rfl, rfl, w0⟩ := open_string Tryz.underlying9 (hval 0 9 v0 rfl rfl) h0
  clear hA0 hval0
  refine (calls W (Go.Dn.Dec.tabs_of7 hsh hL) a0).mono fun e W' ⟨he, bel⟩ => ?_
  subst he
  exact ⟨_, rfl, _, _, _, [], _, [], hW', trodAll_mk1 (shut_bool Tryz.underlying4 _), trodAll_mk1 (shut_string Tryz.underlying9 w0), rfl, bel.frame _, fun h => by cases h⟩
theorem over : Rows.tokenLexesRow.holds Tryz.pinned (OpenSpec.ofChange Rows.tokenLexesSpec) :=
  OpenClaim.holds_of_wide 6 Tryz.f6 rfl rfl rfl rfl rfl rfl rfl ⟨rfl, rfl, rfl, rfl, rfl⟩ rfl rfl rfl rfl rfl (by kernel_rfl) Tryz.func6 (by kernel_rfl)
    (of_decide_eq_true (by kernel_rfl)) (by unfold Func.isWrapper; first | (rw [if_pos (by decide +kernel)]; kernel_rfl) | (rw [if_neg (by decide +kernel)]; exact ⟨rfl, rfl⟩))
    (fun os started H enc _ => lifted os started H enc)
end Go.Proofs.YtbjllhjbhdjfjaaGreatDoor.TokenLexes
namespace Go.Proofs.YtbjllhjbhdjfjaaGreatDoor
/-- The card, under a short name, for the claim. -/
theorem tokenLexes_holds : Rows.TokenLexesCardSaid :=
  Claim7.holds_tied_plain_at .later [] [.data, .data, .data, .data, .sentinel, .sentinel, .pinned] true (true, "3a524b7eab087b04bc89e0412193514c74d0eba6177dae21b9b862119ce91a14") true
    TokenLexes.over (fun _ h => by cases h) (by kernel_rfl) (fun _ h => by cases h) tokenLexes_row_tie rfl ⟨rfl, rfl⟩ (by kernel_rfl) rfl
    (fun f fn hf hfn => by
      obtain rfl : f = 6 := Option.some.inj ((show Tryz.prog.funcNamed "assayer/assayerlaw5.TokenLexes" = some 6 by kernel_rfl).symm.trans hf) |>.symm
      obtain rfl : fn = Tryz.f6 := (Option.some.inj (Tryz.func6.symm.trans hfn)).symm
      exact ⟨by kernel_rfl, fun j t ht => by
        rw [Tryz.params6] at ht
        have hm : t ∈ [9] := by simpa using Array.mem_of_getElem? ht
        have hall : ([9].all fun u => !Tryz.prog.wantsStandIn u) = true := by kernel_rfl
        exact (show Tryz.prog.wantsStandIn t = false by simpa using List.all_eq_true.1 hall t hm)⟩)
    (by kernel_rfl)
end Go.Proofs.YtbjllhjbhdjfjaaGreatDoor
