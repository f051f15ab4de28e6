/-
  NARROWER THAN 'FOR EVERY INPUT', by the rows' own cells (each row's printed sentence says how): FieldAll: loops.
  DERIVED. THE GIVEN ROWS OF THIS SEAT. 4 by the template 'for every input the law returns true; each argument reads behind the call as it read before'; 0 by the template 'total and deterministic' (their statements: YtfbefnmggilfdaaTotals.lean).
  GIVEN WITH THE SEED: the statements are not yours to turn. If you find one false, say at which input.
  Laid BY PROGRAM, IN A SANDBOX (cutbox-rows.mjs): the forced cells as the released guide's own fill.sh prints them over the translation 77d87f53e5f5d9d4… (all of the seat's roots in one cut). By AI agents, Wed Nov 11 2026. No macro, syntax, notation, axiom, sorry.
-/
import Derived.Test.YtfbefnmggilfdaaChecked
import GoSem.Claim
import GoSem.ClaimJoined
import GoSem.ClaimMapViews
import Derived.JoinedTies
import Derived.KernelRfl
namespace Go.Proofs.Ytfbefnmggilfdaa
/- THE CELL 'sum', in the pinned program and in every row, IS THE sha256 OF THE DUMP (.gsa) THAT YtfbefnmggilfdaaProg.lean LOADS. Nothing in Lean hashes anything: it is a label: what it is worth is what the hold of that sum in a sandbox is worth. -/
noncomputable def Try.pinned : Pinned := { name := "ytfbefnmggilfdaa", sum := "77d87f53e5f5d9d4a1b02f06e8c303b0fc5684f8e64bd8ffae0e1fd033e8040c", checked := Try.checked }
namespace Rows
def none {H : Type} : Left H := { results := [], args := [] }

/-- 'assayerlaw12.FieldAll': WHATEVER THE INPUT: true; the input reads as it did. -/
def fieldAllSpec : ChangeSpec := { name := "fieldAll", fn := fun _ => fun
  | [d1, d2] => { results := [.lit (.bool true)], args := [d1, d2] }
  | _ => none }
def fieldAllRow : OpenClaim := { program := "ytfbefnmggilfdaa", sum := "77d87f53e5f5d9d4a1b02f06e8c303b0fc5684f8e64bd8ffae0e1fd033e8040c", func := "assayer/assayerlaw12.FieldAll", spec := "fieldAll", inPlace := ["internal/reflectlite.ValueOf", "internal/reflectlite.Swapper", "(internal/reflectlite.Value).Len"], unfollowed := true, recurses := true, loops := true, apart := false }
def FieldAllSaid : Prop := fieldAllRow.holds Try.pinned (OpenSpec.ofChange fieldAllSpec)

/-- ITS FALSE NEIGHBOUR: 'it returns false'. Refute it at one input. -/
def fieldAllWrong : ChangeSpec := { name := "fieldAll", fn := fun _ => fun
  | [d1, d2] => { results := [.lit (.bool false)], args := [d1, d2] }
  | _ => none }
def FieldAllWrongFalsely : Prop := fieldAllRow.holds Try.pinned (OpenSpec.ofChange fieldAllWrong)

/-- 'assayerlaw12.FieldUnlike': WHATEVER THE INPUT: true; the input reads as it did. -/
def fieldUnlikeSpec : ChangeSpec := { name := "fieldUnlike", fn := fun _ => fun
  | [d] => { results := [.lit (.bool true)], args := [d] }
  | _ => none }
def fieldUnlikeRow : OpenClaim := { program := "ytfbefnmggilfdaa", sum := "77d87f53e5f5d9d4a1b02f06e8c303b0fc5684f8e64bd8ffae0e1fd033e8040c", func := "assayer/assayerlaw12.FieldUnlike", spec := "fieldUnlike", inPlace := ["internal/reflectlite.ValueOf", "internal/reflectlite.Swapper", "(internal/reflectlite.Value).Len"], unfollowed := true, recurses := true, apart := false }
def FieldUnlikeSaid : Prop := fieldUnlikeRow.holds Try.pinned (OpenSpec.ofChange fieldUnlikeSpec)

/-- ITS FALSE NEIGHBOUR: 'it returns false'. Refute it at one input. -/
def fieldUnlikeWrong : ChangeSpec := { name := "fieldUnlike", fn := fun _ => fun
  | [d] => { results := [.lit (.bool false)], args := [d] }
  | _ => none }
def FieldUnlikeWrongFalsely : Prop := fieldUnlikeRow.holds Try.pinned (OpenSpec.ofChange fieldUnlikeWrong)

/-- 'assayerlaw12.FieldForms': WHATEVER THE INPUT: true; the input reads as it did. -/
def fieldFormsSpec : ChangeSpec := { name := "fieldForms", fn := fun _ => fun
  | [] => { results := [.lit (.bool true)], args := [] }
  | _ => none }
def fieldFormsRow : OpenClaim := { program := "ytfbefnmggilfdaa", sum := "77d87f53e5f5d9d4a1b02f06e8c303b0fc5684f8e64bd8ffae0e1fd033e8040c", func := "assayer/assayerlaw12.FieldForms", spec := "fieldForms", inPlace := ["internal/reflectlite.ValueOf", "internal/reflectlite.Swapper", "(internal/reflectlite.Value).Len"], unfollowed := true, recurses := true, apart := false }
def FieldFormsSaid : Prop := fieldFormsRow.holds Try.pinned (OpenSpec.ofChange fieldFormsSpec)

/-- ITS FALSE NEIGHBOUR: 'it returns false'. Refute it at one input. -/
def fieldFormsWrong : ChangeSpec := { name := "fieldForms", fn := fun _ => fun
  | [] => { results := [.lit (.bool false)], args := [] }
  | _ => none }
def FieldFormsWrongFalsely : Prop := fieldFormsRow.holds Try.pinned (OpenSpec.ofChange fieldFormsWrong)

/-- 'assayerlaw12.FieldOrders': WHATEVER THE INPUT: true; the input reads as it did. -/
def fieldOrdersSpec : ChangeSpec := { name := "fieldOrders", fn := fun _ => fun
  | [d] => { results := [.lit (.bool true)], args := [d] }
  | _ => none }
def fieldOrdersRow : OpenClaim := { program := "ytfbefnmggilfdaa", sum := "77d87f53e5f5d9d4a1b02f06e8c303b0fc5684f8e64bd8ffae0e1fd033e8040c", func := "assayer/assayerlaw12.FieldOrders", spec := "fieldOrders", inPlace := ["internal/reflectlite.ValueOf", "internal/reflectlite.Swapper", "(internal/reflectlite.Value).Len"], unfollowed := true, recurses := true, apart := false }
def FieldOrdersSaid : Prop := fieldOrdersRow.holds Try.pinned (OpenSpec.ofChange fieldOrdersSpec)

/-- ITS FALSE NEIGHBOUR: 'it returns false'. Refute it at one input. -/
def fieldOrdersWrong : ChangeSpec := { name := "fieldOrders", fn := fun _ => fun
  | [d] => { results := [.lit (.bool false)], args := [d] }
  | _ => none }
def FieldOrdersWrongFalsely : Prop := fieldOrdersRow.holds Try.pinned (OpenSpec.ofChange fieldOrdersWrong)

/- THE SECOND FORM. 'bulk': how many values and letters a reading holds, each counted each time it is reached (what is shared counts as often as it is met; a slice's spare places count too). A statement '..UptoSaid' is the law's where the arguments, and the package variables that the reading takes, are together of bulk at most 1048576: NARROWER than '..Said'. Prove '..Said' where nothing that the law and all that it calls make is longer than what came in: it says more and counts as full. Else prove '..UptoSaid'. A law counts once. -/
mutual
def uptoBulk {H : Type} : DataW H → Nat
  | .lit (.string bytes) => bytes.length + 1
  | .lit _ => 1
  | .nil => 1
  | .ptr d => uptoBulk d + 1
  | .slice elems spare => uptoBulkAll elems + uptoBulkAll spare + 1
  | .agg parts => uptoBulkAll parts + 1
  | .iface _ d => uptoBulk d + 1
  | .map entries => uptoBulkEntries entries + 1
  | .held _ => 1
def uptoBulkAll {H : Type} : List (DataW H) → Nat
  | [] => 0
  | d :: r => uptoBulk d + uptoBulkAll r
def uptoBulkEntries {H : Type} : List (Lit × DataW H) → Nat
  | [] => 0
  | x :: r => uptoBulkEntry x + uptoBulkEntries r
def uptoBulkEntry {H : Type} : Lit × DataW H → Nat
  | (.string bytes, d) => bytes.length + uptoBulk d + 1
  | (_, d) => uptoBulk d + 1
 end
def uptoSmall : (H : Type) → List (DataW H) → Bool := fun _ ds => decide (uptoBulkAll ds ≤ 1048576)
def OpenSpec.upto (s : _root_.Go.ChangeSpec) : _root_.Go.OpenSpec := { _root_.Go.OpenSpec.ofChange s with cond := some uptoSmall }

/-- 'assayerlaw12.FieldAll', WHERE WHAT IT READS IS OF BULK AT MOST 1048576: true; the input reads as it did. -/
def fieldAllUptoRow : OpenClaim := { program := "ytfbefnmggilfdaa", sum := "77d87f53e5f5d9d4a1b02f06e8c303b0fc5684f8e64bd8ffae0e1fd033e8040c", func := "assayer/assayerlaw12.FieldAll", spec := "fieldAll", inPlace := ["internal/reflectlite.ValueOf", "internal/reflectlite.Swapper", "(internal/reflectlite.Value).Len"], unfollowed := true, recurses := true, loops := true, apart := false, narrowed := true }
def FieldAllUptoSaid : Prop := fieldAllUptoRow.holds Try.pinned (OpenSpec.upto fieldAllSpec)

/-- 'assayerlaw12.FieldUnlike', WHERE WHAT IT READS IS OF BULK AT MOST 1048576: true; the input reads as it did. -/
def fieldUnlikeUptoRow : OpenClaim := { program := "ytfbefnmggilfdaa", sum := "77d87f53e5f5d9d4a1b02f06e8c303b0fc5684f8e64bd8ffae0e1fd033e8040c", func := "assayer/assayerlaw12.FieldUnlike", spec := "fieldUnlike", inPlace := ["internal/reflectlite.ValueOf", "internal/reflectlite.Swapper", "(internal/reflectlite.Value).Len"], unfollowed := true, recurses := true, apart := false, narrowed := true }
def FieldUnlikeUptoSaid : Prop := fieldUnlikeUptoRow.holds Try.pinned (OpenSpec.upto fieldUnlikeSpec)

/-- 'assayerlaw12.FieldForms', WHERE WHAT IT READS IS OF BULK AT MOST 1048576: true; the input reads as it did. -/
def fieldFormsUptoRow : OpenClaim := { program := "ytfbefnmggilfdaa", sum := "77d87f53e5f5d9d4a1b02f06e8c303b0fc5684f8e64bd8ffae0e1fd033e8040c", func := "assayer/assayerlaw12.FieldForms", spec := "fieldForms", inPlace := ["internal/reflectlite.ValueOf", "internal/reflectlite.Swapper", "(internal/reflectlite.Value).Len"], unfollowed := true, recurses := true, apart := false, narrowed := true }
def FieldFormsUptoSaid : Prop := fieldFormsUptoRow.holds Try.pinned (OpenSpec.upto fieldFormsSpec)

/-- 'assayerlaw12.FieldOrders', WHERE WHAT IT READS IS OF BULK AT MOST 1048576: true; the input reads as it did. -/
def fieldOrdersUptoRow : OpenClaim := { program := "ytfbefnmggilfdaa", sum := "77d87f53e5f5d9d4a1b02f06e8c303b0fc5684f8e64bd8ffae0e1fd033e8040c", func := "assayer/assayerlaw12.FieldOrders", spec := "fieldOrders", inPlace := ["internal/reflectlite.ValueOf", "internal/reflectlite.Swapper", "(internal/reflectlite.Value).Len"], unfollowed := true, recurses := true, apart := false, narrowed := true }
def FieldOrdersUptoSaid : Prop := fieldOrdersUptoRow.holds Try.pinned (OpenSpec.upto fieldOrdersSpec)

end Rows
end Go.Proofs.Ytfbefnmggilfdaa
