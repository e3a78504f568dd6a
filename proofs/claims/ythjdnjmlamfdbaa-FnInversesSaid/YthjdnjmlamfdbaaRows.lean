/-
  No cell of these rows narrows 'for every input' (looked for: loops, veiled, ifaces, maps, wideKeys, modest, calm, conditions, laid).
  DERIVED. THE GIVEN ROWS OF THIS SEAT. 8 by the template 'for every input the law returns true; each argument reads behind the call as it read before'; 0 by the template 'total and deterministic' (their statements: YthjdnjmlamfdbaaTotals.lean).
  GIVEN WITH THE SEED: the statements are not yours to turn. If you find one false, say at which input.
  Laid BY PROGRAM, IN A SANDBOX (cutbox-rows.mjs): the forced cells as the released guide's own fill.sh prints them over the translation 08b7f1c6fd71e7d8… (all of the seat's roots in one cut). By AI agents, Wed Nov 11 2026. No macro, syntax, notation, axiom, sorry.
-/
import Derived.Test.YthjdnjmlamfdbaaChecked
import GoSem.Claim
import GoSem.ClaimJoined
import GoSem.ClaimMapViews
import Derived.JoinedTies
import Derived.KernelRfl
namespace Go.Proofs.Ythjdnjmlamfdbaa
/- THE CELL 'sum', in the pinned program and in every row, IS THE sha256 OF THE DUMP (.gsa) THAT YthjdnjmlamfdbaaProg.lean LOADS. Nothing in Lean hashes anything: it is a label: what it is worth is what the hold of that sum in a sandbox is worth. -/
noncomputable def Try.pinned : Pinned := { name := "ythjdnjmlamfdbaa", sum := "08b7f1c6fd71e7d83b64ebf099f259dcd7cbdb937979f7b56b270c81d58822bc", checked := Try.checked }
namespace Rows
def none {H : Type} : Left H := { results := [], args := [] }

/-- 'laws.FnExactMatrixOk': WHATEVER THE INPUT: true; the input reads as it did. -/
def fnExactMatrixOkSpec : ChangeSpec := { name := "fnExactMatrixOk", fn := fun _ => fun
  | [d] => { results := [.lit (.bool true)], args := [d] }
  | _ => none }
def fnExactMatrixOkRow : OpenClaim := { program := "ythjdnjmlamfdbaa", sum := "08b7f1c6fd71e7d83b64ebf099f259dcd7cbdb937979f7b56b270c81d58822bc", func := "loop.example/g00197/laws.FnExactMatrixOk", spec := "fnExactMatrixOk", unfollowed := true, recurses := true, apart := false }
def FnExactMatrixOkSaid : Prop := fnExactMatrixOkRow.holds Try.pinned (OpenSpec.ofChange fnExactMatrixOkSpec)

/-- ITS FALSE NEIGHBOUR: 'it returns false'. Refute it at one input. -/
def fnExactMatrixOkWrong : ChangeSpec := { name := "fnExactMatrixOk", fn := fun _ => fun
  | [d] => { results := [.lit (.bool false)], args := [d] }
  | _ => none }
def FnExactMatrixOkWrongFalsely : Prop := fnExactMatrixOkRow.holds Try.pinned (OpenSpec.ofChange fnExactMatrixOkWrong)

/-- 'laws.FnMatrices': WHATEVER THE INPUT: true; the input reads as it did. -/
def fnMatricesSpec : ChangeSpec := { name := "fnMatrices", fn := fun _ => fun
  | [d] => { results := [.lit (.bool true)], args := [d] }
  | _ => none }
def fnMatricesRow : OpenClaim := { program := "ythjdnjmlamfdbaa", sum := "08b7f1c6fd71e7d83b64ebf099f259dcd7cbdb937979f7b56b270c81d58822bc", func := "loop.example/g00197/laws.FnMatrices", spec := "fnMatrices", unfollowed := true, recurses := true, apart := false }
def FnMatricesSaid : Prop := fnMatricesRow.holds Try.pinned (OpenSpec.ofChange fnMatricesSpec)

/-- ITS FALSE NEIGHBOUR: 'it returns false'. Refute it at one input. -/
def fnMatricesWrong : ChangeSpec := { name := "fnMatrices", fn := fun _ => fun
  | [d] => { results := [.lit (.bool false)], args := [d] }
  | _ => none }
def FnMatricesWrongFalsely : Prop := fnMatricesRow.holds Try.pinned (OpenSpec.ofChange fnMatricesWrong)

/-- 'laws.FnExactMulM': WHATEVER THE INPUT: true; the input reads as it did. -/
def fnExactMulMSpec : ChangeSpec := { name := "fnExactMulM", fn := fun _ => fun
  | [d1, d2] => { results := [.lit (.bool true)], args := [d1, d2] }
  | _ => none }
def fnExactMulMRow : OpenClaim := { program := "ythjdnjmlamfdbaa", sum := "08b7f1c6fd71e7d83b64ebf099f259dcd7cbdb937979f7b56b270c81d58822bc", func := "loop.example/g00197/laws.FnExactMulM", spec := "fnExactMulM", unfollowed := true, recurses := true, apart := false }
def FnExactMulMSaid : Prop := fnExactMulMRow.holds Try.pinned (OpenSpec.ofChange fnExactMulMSpec)

/-- ITS FALSE NEIGHBOUR: 'it returns false'. Refute it at one input. -/
def fnExactMulMWrong : ChangeSpec := { name := "fnExactMulM", fn := fun _ => fun
  | [d1, d2] => { results := [.lit (.bool false)], args := [d1, d2] }
  | _ => none }
def FnExactMulMWrongFalsely : Prop := fnExactMulMRow.holds Try.pinned (OpenSpec.ofChange fnExactMulMWrong)

/-- 'laws.FnExactApplyM': WHATEVER THE INPUT: true; the input reads as it did. -/
def fnExactApplyMSpec : ChangeSpec := { name := "fnExactApplyM", fn := fun _ => fun
  | [d1, d2] => { results := [.lit (.bool true)], args := [d1, d2] }
  | _ => none }
def fnExactApplyMRow : OpenClaim := { program := "ythjdnjmlamfdbaa", sum := "08b7f1c6fd71e7d83b64ebf099f259dcd7cbdb937979f7b56b270c81d58822bc", func := "loop.example/g00197/laws.FnExactApplyM", spec := "fnExactApplyM", unfollowed := true, recurses := true, apart := false }
def FnExactApplyMSaid : Prop := fnExactApplyMRow.holds Try.pinned (OpenSpec.ofChange fnExactApplyMSpec)

/-- ITS FALSE NEIGHBOUR: 'it returns false'. Refute it at one input. -/
def fnExactApplyMWrong : ChangeSpec := { name := "fnExactApplyM", fn := fun _ => fun
  | [d1, d2] => { results := [.lit (.bool false)], args := [d1, d2] }
  | _ => none }
def FnExactApplyMWrongFalsely : Prop := fnExactApplyMRow.holds Try.pinned (OpenSpec.ofChange fnExactApplyMWrong)

/-- 'laws.FnApplies': WHATEVER THE INPUT: true; the input reads as it did. -/
def fnAppliesSpec : ChangeSpec := { name := "fnApplies", fn := fun _ => fun
  | [d] => { results := [.lit (.bool true)], args := [d] }
  | _ => none }
def fnAppliesRow : OpenClaim := { program := "ythjdnjmlamfdbaa", sum := "08b7f1c6fd71e7d83b64ebf099f259dcd7cbdb937979f7b56b270c81d58822bc", func := "loop.example/g00197/laws.FnApplies", spec := "fnApplies", unfollowed := true, recurses := true, apart := false }
def FnAppliesSaid : Prop := fnAppliesRow.holds Try.pinned (OpenSpec.ofChange fnAppliesSpec)

/-- ITS FALSE NEIGHBOUR: 'it returns false'. Refute it at one input. -/
def fnAppliesWrong : ChangeSpec := { name := "fnApplies", fn := fun _ => fun
  | [d] => { results := [.lit (.bool false)], args := [d] }
  | _ => none }
def FnAppliesWrongFalsely : Prop := fnAppliesRow.holds Try.pinned (OpenSpec.ofChange fnAppliesWrong)

/-- 'laws.FnInverses': WHATEVER THE INPUT: true; the input reads as it did. -/
def fnInversesSpec : ChangeSpec := { name := "fnInverses", fn := fun _ => fun
  | [d] => { results := [.lit (.bool true)], args := [d] }
  | _ => none }
def fnInversesRow : OpenClaim := { program := "ythjdnjmlamfdbaa", sum := "08b7f1c6fd71e7d83b64ebf099f259dcd7cbdb937979f7b56b270c81d58822bc", func := "loop.example/g00197/laws.FnInverses", spec := "fnInverses", unfollowed := true, recurses := true, apart := false }
def FnInversesSaid : Prop := fnInversesRow.holds Try.pinned (OpenSpec.ofChange fnInversesSpec)

/-- ITS FALSE NEIGHBOUR: 'it returns false'. Refute it at one input. -/
def fnInversesWrong : ChangeSpec := { name := "fnInverses", fn := fun _ => fun
  | [d] => { results := [.lit (.bool false)], args := [d] }
  | _ => none }
def FnInversesWrongFalsely : Prop := fnInversesRow.holds Try.pinned (OpenSpec.ofChange fnInversesWrong)

/-- 'laws.FnExactInvM': WHATEVER THE INPUT: true; the input reads as it did. -/
def fnExactInvMSpec : ChangeSpec := { name := "fnExactInvM", fn := fun _ => fun
  | [d] => { results := [.lit (.bool true)], args := [d] }
  | _ => none }
def fnExactInvMRow : OpenClaim := { program := "ythjdnjmlamfdbaa", sum := "08b7f1c6fd71e7d83b64ebf099f259dcd7cbdb937979f7b56b270c81d58822bc", func := "loop.example/g00197/laws.FnExactInvM", spec := "fnExactInvM", unfollowed := true, recurses := true, apart := false }
def FnExactInvMSaid : Prop := fnExactInvMRow.holds Try.pinned (OpenSpec.ofChange fnExactInvMSpec)

/-- ITS FALSE NEIGHBOUR: 'it returns false'. Refute it at one input. -/
def fnExactInvMWrong : ChangeSpec := { name := "fnExactInvM", fn := fun _ => fun
  | [d] => { results := [.lit (.bool false)], args := [d] }
  | _ => none }
def FnExactInvMWrongFalsely : Prop := fnExactInvMRow.holds Try.pinned (OpenSpec.ofChange fnExactInvMWrong)

/-- 'laws.FnSchemas': WHATEVER THE INPUT: true; the input reads as it did. -/
def fnSchemasSpec : ChangeSpec := { name := "fnSchemas", fn := fun _ => fun
  | [d] => { results := [.lit (.bool true)], args := [d] }
  | _ => none }
def fnSchemasRow : OpenClaim := { program := "ythjdnjmlamfdbaa", sum := "08b7f1c6fd71e7d83b64ebf099f259dcd7cbdb937979f7b56b270c81d58822bc", func := "loop.example/g00197/laws.FnSchemas", spec := "fnSchemas", unfollowed := true, recurses := true, apart := false }
def FnSchemasSaid : Prop := fnSchemasRow.holds Try.pinned (OpenSpec.ofChange fnSchemasSpec)

/-- ITS FALSE NEIGHBOUR: 'it returns false'. Refute it at one input. -/
def fnSchemasWrong : ChangeSpec := { name := "fnSchemas", fn := fun _ => fun
  | [d] => { results := [.lit (.bool false)], args := [d] }
  | _ => none }
def FnSchemasWrongFalsely : Prop := fnSchemasRow.holds Try.pinned (OpenSpec.ofChange fnSchemasWrong)

/- THE SECOND FORM. 'bulk': how many values and letters a reading holds, each counted each time it is reached (what is shared counts as often as it is met; a slice's spare places count too). A statement '..UptoSaid' is the law's where the arguments, and the package variables that the reading takes, are together of bulk at most 1048576: NARROWER than '..Said'. Prove '..Said' where nothing that the law and all that it calls make is longer than what came in: it says more and counts as full. Else prove '..UptoSaid'. A law counts once. -/
mutual
def uptoBulk {H : Type} : DataW H → Nat
  | .lit (.string bytes) => bytes.length + 1
  | .lit _ => 1
  | .nil => 1
  | .ptr d => uptoBulk d + 1
  | .slice elems spare => uptoBulkAll elems + uptoBulkAll spare + 1
  | .agg parts => uptoBulkAll parts + 1
  | .iface _ d => uptoBulk d + 1
  | .map entries => uptoBulkEntries entries + 1
  | .held _ => 1
def uptoBulkAll {H : Type} : List (DataW H) → Nat
  | [] => 0
  | d :: r => uptoBulk d + uptoBulkAll r
def uptoBulkEntries {H : Type} : List (Lit × DataW H) → Nat
  | [] => 0
  | x :: r => uptoBulkEntry x + uptoBulkEntries r
def uptoBulkEntry {H : Type} : Lit × DataW H → Nat
  | (.string bytes, d) => bytes.length + uptoBulk d + 1
  | (_, d) => uptoBulk d + 1
 end
def uptoSmall : (H : Type) → List (DataW H) → Bool := fun _ ds => decide (uptoBulkAll ds ≤ 1048576)
def OpenSpec.upto (s : _root_.Go.ChangeSpec) : _root_.Go.OpenSpec := { _root_.Go.OpenSpec.ofChange s with cond := some uptoSmall }

/-- 'laws.FnExactMatrixOk', WHERE WHAT IT READS IS OF BULK AT MOST 1048576: true; the input reads as it did. -/
def fnExactMatrixOkUptoRow : OpenClaim := { program := "ythjdnjmlamfdbaa", sum := "08b7f1c6fd71e7d83b64ebf099f259dcd7cbdb937979f7b56b270c81d58822bc", func := "loop.example/g00197/laws.FnExactMatrixOk", spec := "fnExactMatrixOk", unfollowed := true, recurses := true, apart := false, narrowed := true }
def FnExactMatrixOkUptoSaid : Prop := fnExactMatrixOkUptoRow.holds Try.pinned (OpenSpec.upto fnExactMatrixOkSpec)

/-- 'laws.FnMatrices', WHERE WHAT IT READS IS OF BULK AT MOST 1048576: true; the input reads as it did. -/
def fnMatricesUptoRow : OpenClaim := { program := "ythjdnjmlamfdbaa", sum := "08b7f1c6fd71e7d83b64ebf099f259dcd7cbdb937979f7b56b270c81d58822bc", func := "loop.example/g00197/laws.FnMatrices", spec := "fnMatrices", unfollowed := true, recurses := true, apart := false, narrowed := true }
def FnMatricesUptoSaid : Prop := fnMatricesUptoRow.holds Try.pinned (OpenSpec.upto fnMatricesSpec)

/-- 'laws.FnExactMulM', WHERE WHAT IT READS IS OF BULK AT MOST 1048576: true; the input reads as it did. -/
def fnExactMulMUptoRow : OpenClaim := { program := "ythjdnjmlamfdbaa", sum := "08b7f1c6fd71e7d83b64ebf099f259dcd7cbdb937979f7b56b270c81d58822bc", func := "loop.example/g00197/laws.FnExactMulM", spec := "fnExactMulM", unfollowed := true, recurses := true, apart := false, narrowed := true }
def FnExactMulMUptoSaid : Prop := fnExactMulMUptoRow.holds Try.pinned (OpenSpec.upto fnExactMulMSpec)

/-- 'laws.FnExactApplyM', WHERE WHAT IT READS IS OF BULK AT MOST 1048576: true; the input reads as it did. -/
def fnExactApplyMUptoRow : OpenClaim := { program := "ythjdnjmlamfdbaa", sum := "08b7f1c6fd71e7d83b64ebf099f259dcd7cbdb937979f7b56b270c81d58822bc", func := "loop.example/g00197/laws.FnExactApplyM", spec := "fnExactApplyM", unfollowed := true, recurses := true, apart := false, narrowed := true }
def FnExactApplyMUptoSaid : Prop := fnExactApplyMUptoRow.holds Try.pinned (OpenSpec.upto fnExactApplyMSpec)

/-- 'laws.FnApplies', WHERE WHAT IT READS IS OF BULK AT MOST 1048576: true; the input reads as it did. -/
def fnAppliesUptoRow : OpenClaim := { program := "ythjdnjmlamfdbaa", sum := "08b7f1c6fd71e7d83b64ebf099f259dcd7cbdb937979f7b56b270c81d58822bc", func := "loop.example/g00197/laws.FnApplies", spec := "fnApplies", unfollowed := true, recurses := true, apart := false, narrowed := true }
def FnAppliesUptoSaid : Prop := fnAppliesUptoRow.holds Try.pinned (OpenSpec.upto fnAppliesSpec)

/-- 'laws.FnInverses', WHERE WHAT IT READS IS OF BULK AT MOST 1048576: true; the input reads as it did. -/
def fnInversesUptoRow : OpenClaim := { program := "ythjdnjmlamfdbaa", sum := "08b7f1c6fd71e7d83b64ebf099f259dcd7cbdb937979f7b56b270c81d58822bc", func := "loop.example/g00197/laws.FnInverses", spec := "fnInverses", unfollowed := true, recurses := true, apart := false, narrowed := true }
def FnInversesUptoSaid : Prop := fnInversesUptoRow.holds Try.pinned (OpenSpec.upto fnInversesSpec)

/-- 'laws.FnExactInvM', WHERE WHAT IT READS IS OF BULK AT MOST 1048576: true; the input reads as it did. -/
def fnExactInvMUptoRow : OpenClaim := { program := "ythjdnjmlamfdbaa", sum := "08b7f1c6fd71e7d83b64ebf099f259dcd7cbdb937979f7b56b270c81d58822bc", func := "loop.example/g00197/laws.FnExactInvM", spec := "fnExactInvM", unfollowed := true, recurses := true, apart := false, narrowed := true }
def FnExactInvMUptoSaid : Prop := fnExactInvMUptoRow.holds Try.pinned (OpenSpec.upto fnExactInvMSpec)

/-- 'laws.FnSchemas', WHERE WHAT IT READS IS OF BULK AT MOST 1048576: true; the input reads as it did. -/
def fnSchemasUptoRow : OpenClaim := { program := "ythjdnjmlamfdbaa", sum := "08b7f1c6fd71e7d83b64ebf099f259dcd7cbdb937979f7b56b270c81d58822bc", func := "loop.example/g00197/laws.FnSchemas", spec := "fnSchemas", unfollowed := true, recurses := true, apart := false, narrowed := true }
def FnSchemasUptoSaid : Prop := fnSchemasUptoRow.holds Try.pinned (OpenSpec.upto fnSchemasSpec)

end Rows
end Go.Proofs.Ythjdnjmlamfdbaa
