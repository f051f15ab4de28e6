/- FieldAll returns true, whatever the fields and the numbers. No condition. -/
import Derived.Test.YtfbefnmggilfdaaRows
import Derived.Test.YtfbefnmggilfdaaFlH
import Derived.Test.YtfbefnmggilfdaaDn4
import Derived.WalkKit
import Derived.ProofKit
import Derived.OpenShut
import Derived.ShutString
import Derived.ChangeOld
import Derived.Below
import Derived.SizedLaws
namespace Go.Dn.Field
open Go.Proofs
theorem fd_of {x : D} (h : Sh Try.prog 39 x.cells) : ∃ f : Fd, f.d = x ∧ f.ok := by
  have c39 : Try.prog.cellsOf 39 = 11 := by kernel_rfl
  have c37 : Try.prog.cellsOf 37 = 5 := by kernel_rfl
  have c2 : Try.prog.cellsOf 2 = 1 := by kernel_rfl
  have c3 : Try.prog.cellsOf 3 = 1 := by kernel_rfl
  have c4 : Try.prog.cellsOf 4 = 1 := by kernel_rfl
  have c9 : Try.prog.cellsOf 9 = 1 := by kernel_rfl
  have c34 : Try.prog.cellsOf 34 = 1 := by kernel_rfl
  have c35 : Try.prog.cellsOf 35 = 1 := by kernel_rfl
  obtain ⟨hl, hf⟩ := h.struct' Try.underlying39
  rw [c39] at hl
  obtain ⟨ds, rfl⟩ : ∃ ds, x = .g ds := by
    cases x <;> first | (simp [D.cells] at hl; done) | exact ⟨_, rfl⟩
  simp only [cells_g] at hl hf
  match ds, hl with
  | [a0, a1, a2, a3, a4, a5, a6, a7, a8, a9, a10], _ =>
    simp [c37, c2, c3, c4, c9] at hf
    obtain ⟨f0, f1, f2, f3, f4, f5, f6⟩ := hf
    obtain ⟨b0, e0⟩ := f0.bool' Try.underlying4
    obtain ⟨n1, e1, _⟩ := f1.int' Try.underlying2
    obtain ⟨n2, e2, _⟩ := f2.int' Try.underlying3
    obtain ⟨s3, e3, _⟩ := f3.str' Try.underlying9
    obtain ⟨s4, e4, _⟩ := f4.str' Try.underlying9
    obtain ⟨b5, e5⟩ := f5.bool' Try.underlying4
    obtain ⟨_, hg⟩ := f6.struct' Try.underlying37
    simp [c34, c2, c3, c35, c9] at hg
    obtain ⟨g0, g1, g2, g3, g4⟩ := hg
    obtain ⟨n6, e6, _⟩ := g0.int' Try.underlying3
    obtain ⟨n7, e7, _⟩ := g1.int' Try.underlying2
    obtain ⟨n8, e8, _⟩ := g2.int' Try.underlying34
    obtain ⟨s9, e9, _⟩ := g3.str' Try.underlying9
    obtain ⟨x10, e10, _⟩ := g4.slice' Try.underlying35
    simp only [List.cons.injEq, and_true] at e0 e1 e2 e3 e4 e5 e6 e7 e8 e9 e10
    subst e0; subst e1; subst e2; subst e3; subst e4; subst e5; subst e6; subst e7; subst e8; subst e9; subst e10
    exact ⟨⟨b0, n1, s4, _, _, _, _, _, _, _, _⟩, rfl, rfl, rfl, rfl, rfl, rfl, rfl, rfl, rfl⟩
theorem fds_of : ∀ (xs : List D), (∀ x ∈ xs, Sh Try.prog 39 x.cells) → ∃ L : List Fd, L.map Fd.d = xs ∧ ∀ f ∈ L, f.ok
  | [], _ => ⟨[], rfl, by simp⟩
  | x :: xs, h => by
    obtain ⟨f, h1, h2⟩ := fd_of (h x (by simp))
    obtain ⟨L, k1, k2⟩ := fds_of xs fun y hy => h y (by simp [hy])
    exact ⟨f :: L, by simp [h1, k1], by simpa using ⟨h2, k2⟩⟩
theorem all_calls (W : World) {v u : Value} {L : List Fd} {zs : List Int} (hv : RD (cellF W) (.l false (L.map Fd.d)) v) (hu : RD (cellF W) (.l false (ints .i64 zs)) u) (hok : ∀ f ∈ L, f.ok) :
    Calls Try.prog 3 #[v, u] W fun e W' => e = .returned (.bool true) ∧ RowKit.Below W.heap.size W W' := by
  refine run_row mixed extOk hname Try.func3 (by kernel_rfl) (rk_run (all_run' false false L zs hok)) (by simp only [RVs]; exact ⟨_, _, rfl, hv, _, _, rfl, hu, rfl⟩) fun _ _ h => RD_true h
end Go.Dn.Field
namespace Go.Proofs.Ytfbefnmggilfdaa.FieldAll
open Go.ChangeShapes Go.WideShapes Go.ChangeAt Go.RowKit
open Go.ChangeMaps (open_string shut_string)
theorem own : ownKnob Try.prog.godebug = none := by kernel_rfl
theorem laidOut : laidOutB Try.prog = true := by kernel_rfl
theorem plain : [22, 39, 2, 3, 4, 9, 35, 37, 34].all (Go.Dn.plainT Try.prog [22, 39, 2, 3, 4, 9, 35, 37, 34]) = true := by kernel_rfl
set_option maxRecDepth 100000 in
theorem lifted (os : Os) (started : os.Started) (H : Type) (enc : TypeId × Value → H) :
    ReturnsInHanded {} Try.checked os 3 .any (Rows.fieldAllSpec.pre6 enc Try.prog Try.f3 Rows.fieldAllRow.domain false) (Rows.fieldAllSpec.post enc Try.prog Try.f3 false true false false) := by
  refine returnsInHanded_of_change_sized (C := Try.checked) own started (by kernel_rfl) Try.func3
    (ChangeSpec.witness6 (enc := enc) (C := Try.checked) false ⟨#[], #[.slice none 0 0, .slice none 0 0], []⟩ 8 (by kernel_rfl) (by kernel_rfl) (by kernel_rfl) (by kernel_rfl)) ?_
  intro W base args ds gs before hval0 hW hcnd hsz0 _
  have hval : ∀ (j : Nat) t v, Try.f3.params[j]? = some t → args[j]? = some v → Value.okWide Try.prog W .any base t v := hval0
  have hW' := hW
  obtain ⟨p, q, hA0, hV, rfl, hfz, hnd⟩ := hW
  have hA : DataW.TrodAll enc Try.prog W 0 (fun _ => true) true Try.f3.params.toList args.toList ds p := hA0
  rw [Try.params3] at hA hval
  obtain ⟨v0, vs0, d0, ds0, p0, q0, hargs, rfl, rfl, h0, r0⟩ := trodAll_cons hA
  obtain ⟨v1, vs1, d1, ds1, p1, q1, rfl, rfl, rfl, h1, r1⟩ := trodAll_cons r0
  obtain ⟨rfl, rfl, rfl⟩ := trodAll_nil r1
  obtain rfl : args = #[v0, v1] := by cases args; simp_all
  obtain ⟨rfl, rfl⟩ := trodVars_none hV
  obtain ⟨a0, len0, cap0, rfl⟩ := okWide_slice Try.underlying22 (hval 0 22 v0 rfl rfl)
  obtain ⟨a1, len1, cap1, rfl⟩ := okWide_slice Try.underlying23 (hval 1 23 v1 rfl rfl)
  have k0 := h0
  have k1 := h1
  have lt0 : ∀ x ∈ p0, x.block < W.heap.size := by obtain ⟨m, hm⟩ := k0; exact DataW.trod_lt m _ _ _ hm
  have lt1 : ∀ x ∈ p1, x.block < W.heap.size := by obtain ⟨m, hm⟩ := k1; exact DataW.trod_lt m _ _ _ hm
  obtain ⟨L, hL, hok⟩ : ∃ L : List Go.Dn.Field.Fd, Go.Dn.RD (Go.Dn.cellF W) (.l false (L.map Go.Dn.Field.Fd.d)) (.slice a0 len0 cap0) ∧ ∀ f ∈ L, f.ok := by
    obtain ⟨fuel, hf⟩ := h0
    obtain ⟨es, e1, e2, _⟩ := Go.Dn.shape_of plain fuel 22 _ _ rfl hf
    obtain ⟨xs, rfl, _, hx⟩ := e2.slice' Try.underlying22
    obtain ⟨L, rfl, hok⟩ := Go.Dn.Field.fds_of xs hx
    refine ⟨L, ?_, hok⟩
    simp only [Value.cells, Go.Dn.RDs] at e1
    obtain ⟨y, r, e, h, _⟩ := e1
    simp at e
    rw [e.1]; exact h
  obtain ⟨zs, hrd, hwf⟩ : ∃ zs : List Int, Go.Dn.RD (Go.Dn.cellF W) (.l false (Go.Dn.ints .i64 zs)) (.slice a1 len1 cap1) ∧ ∀ n ∈ zs, (Lit.int .i64 n).wf = true := by
    obtain ⟨fuel, hf⟩ := h1
    refine Go.Dn.RD_open ?_
    rcases open_ints Try.underlying23 Try.underlying3 (by kernel_rfl) hf with ⟨hcs, _⟩ | ⟨x, l, c, zs, hcs, _, hl, hm, hz, _, hcell, hwz⟩
    · simp [Value.cells] at hcs
      exact .inl hcs
    · simp [Value.cells] at hcs
      obtain ⟨rfl, rfl, rfl⟩ := hcs
      exact .inr ⟨x, zs, rfl, hl, by simpa using hz, hcell, hwz⟩
  clear hA0 hval0 hsz0
  refine (Go.Dn.Field.all_calls W hL hrd hok).mono fun e W' ⟨he, bel⟩ => ?_
  subst he
  exact ⟨_, rfl, _, _, _, [], _, [], hW', trodAll_mk1 (shut_bool Try.underlying4 _), (trodAll_cons_mk (Below.trod laidOut (by kernel_rfl) (of_decide_eq_true (by kernel_rfl)) k0 bel lt0) (trodAll_cons_mk (Below.trod laidOut (by kernel_rfl) (of_decide_eq_true (by kernel_rfl)) k1 bel lt1) trodAll_mk0)), rfl, bel.frame _, fun h => by cases h⟩
theorem over : Rows.fieldAllRow.holds Try.pinned (OpenSpec.ofChange Rows.fieldAllSpec) :=
  OpenClaim.holds_of_wide 3 Try.f3 rfl rfl rfl rfl rfl rfl rfl ⟨rfl, rfl, rfl, rfl, rfl⟩ rfl rfl rfl rfl rfl (by kernel_rfl) Try.func3 (by kernel_rfl)
    (of_decide_eq_true (by kernel_rfl)) (by unfold Func.isWrapper; first | (rw [if_pos (by decide +kernel)]; kernel_rfl) | (rw [if_neg (by decide +kernel)]; exact ⟨rfl, rfl⟩))
    (fun os started H enc _ => lifted os started H enc)
end Go.Proofs.Ytfbefnmggilfdaa.FieldAll
namespace Go.Proofs.Ytfbefnmggilfdaa
/-- The row, under a short name, for the claim. -/
theorem fieldAll_holds : Rows.FieldAllSaid := FieldAll.over
end Go.Proofs.Ytfbefnmggilfdaa
