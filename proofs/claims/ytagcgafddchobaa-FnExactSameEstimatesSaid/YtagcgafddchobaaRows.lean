/-
  No cell of these rows narrows 'for every input' (looked for: loops, veiled, ifaces, maps, wideKeys, modest, calm, conditions, laid).
  DERIVED. THE GIVEN ROWS OF THIS SEAT. 7 by the template 'for every input the law returns true; each argument reads behind the call as it read before'; 0 by the template 'total and deterministic' (their statements: YtagcgafddchobaaTotals.lean).
  GIVEN WITH THE SEED: the statements are not yours to turn. If you find one false, say at which input.
  Laid BY PROGRAM, IN A SANDBOX (cutbox-rows.mjs): the forced cells as the released guide's own fill.sh prints them over the translation d5965ff819261be3… (all of the seat's roots in one cut). By AI agents, Wed Nov 11 2026. No macro, syntax, notation, axiom, sorry.
-/
import Derived.Test.YtagcgafddchobaaChecked
import GoSem.Claim
import GoSem.ClaimJoined
import GoSem.ClaimMapViews
import Derived.JoinedTies
import Derived.KernelRfl
namespace Go.Proofs.Ytagcgafddchobaa
/- THE CELL 'sum', in the pinned program and in every row, IS THE sha256 OF THE DUMP (.gsa) THAT YtagcgafddchobaaProg.lean LOADS. Nothing in Lean hashes anything: it is a label: what it is worth is what the hold of that sum in a sandbox is worth. -/
noncomputable def Try.pinned : Pinned := { name := "ytagcgafddchobaa", sum := "d5965ff819261be3948bdbb5b0b06544a2f708e30d944c5670432ae0091eb0f4", checked := Try.checked }
namespace Rows
def none {H : Type} : Left H := { results := [], args := [] }

/-- 'laws.FnExactSumOfText': WHATEVER THE INPUT: true; the input reads as it did. -/
def fnExactSumOfTextSpec : ChangeSpec := { name := "fnExactSumOfText", fn := fun _ => fun
  | [d] => { results := [.lit (.bool true)], args := [d] }
  | _ => none }
def fnExactSumOfTextRow : OpenClaim := { program := "ytagcgafddchobaa", sum := "d5965ff819261be3948bdbb5b0b06544a2f708e30d944c5670432ae0091eb0f4", func := "loop.example/g00822/laws.FnExactSumOfText", spec := "fnExactSumOfText", apart := false }
def FnExactSumOfTextSaid : Prop := fnExactSumOfTextRow.holds Try.pinned (OpenSpec.ofChange fnExactSumOfTextSpec)

/-- ITS FALSE NEIGHBOUR: 'it returns false'. Refute it at one input. -/
def fnExactSumOfTextWrong : ChangeSpec := { name := "fnExactSumOfText", fn := fun _ => fun
  | [d] => { results := [.lit (.bool false)], args := [d] }
  | _ => none }
def FnExactSumOfTextWrongFalsely : Prop := fnExactSumOfTextRow.holds Try.pinned (OpenSpec.ofChange fnExactSumOfTextWrong)

/-- 'laws.FnExactCountSets': WHATEVER THE INPUT: true; the input reads as it did. -/
def fnExactCountSetsSpec : ChangeSpec := { name := "fnExactCountSets", fn := fun _ => fun
  | [d1, d2] => { results := [.lit (.bool true)], args := [d1, d2] }
  | _ => none }
def fnExactCountSetsRow : OpenClaim := { program := "ytagcgafddchobaa", sum := "d5965ff819261be3948bdbb5b0b06544a2f708e30d944c5670432ae0091eb0f4", func := "loop.example/g00822/laws.FnExactCountSets", spec := "fnExactCountSets", apart := false }
def FnExactCountSetsSaid : Prop := fnExactCountSetsRow.holds Try.pinned (OpenSpec.ofChange fnExactCountSetsSpec)

/-- ITS FALSE NEIGHBOUR: 'it returns false'. Refute it at one input. -/
def fnExactCountSetsWrong : ChangeSpec := { name := "fnExactCountSets", fn := fun _ => fun
  | [d1, d2] => { results := [.lit (.bool false)], args := [d1, d2] }
  | _ => none }
def FnExactCountSetsWrongFalsely : Prop := fnExactCountSetsRow.holds Try.pinned (OpenSpec.ofChange fnExactCountSetsWrong)

/-- 'laws.FnExactFirstSet': WHATEVER THE INPUT: true; the input reads as it did. -/
def fnExactFirstSetSpec : ChangeSpec := { name := "fnExactFirstSet", fn := fun _ => fun
  | [d1, d2] => { results := [.lit (.bool true)], args := [d1, d2] }
  | _ => none }
def fnExactFirstSetRow : OpenClaim := { program := "ytagcgafddchobaa", sum := "d5965ff819261be3948bdbb5b0b06544a2f708e30d944c5670432ae0091eb0f4", func := "loop.example/g00822/laws.FnExactFirstSet", spec := "fnExactFirstSet", apart := false }
def FnExactFirstSetSaid : Prop := fnExactFirstSetRow.holds Try.pinned (OpenSpec.ofChange fnExactFirstSetSpec)

/-- ITS FALSE NEIGHBOUR: 'it returns false'. Refute it at one input. -/
def fnExactFirstSetWrong : ChangeSpec := { name := "fnExactFirstSet", fn := fun _ => fun
  | [d1, d2] => { results := [.lit (.bool false)], args := [d1, d2] }
  | _ => none }
def FnExactFirstSetWrongFalsely : Prop := fnExactFirstSetRow.holds Try.pinned (OpenSpec.ofChange fnExactFirstSetWrong)

/-- 'laws.FnSets': WHATEVER THE INPUT: true; the input reads as it did. -/
def fnSetsSpec : ChangeSpec := { name := "fnSets", fn := fun _ => fun
  | [d] => { results := [.lit (.bool true)], args := [d] }
  | _ => none }
def fnSetsRow : OpenClaim := { program := "ytagcgafddchobaa", sum := "d5965ff819261be3948bdbb5b0b06544a2f708e30d944c5670432ae0091eb0f4", func := "loop.example/g00822/laws.FnSets", spec := "fnSets", apart := false }
def FnSetsSaid : Prop := fnSetsRow.holds Try.pinned (OpenSpec.ofChange fnSetsSpec)

/-- ITS FALSE NEIGHBOUR: 'it returns false'. Refute it at one input. -/
def fnSetsWrong : ChangeSpec := { name := "fnSets", fn := fun _ => fun
  | [d] => { results := [.lit (.bool false)], args := [d] }
  | _ => none }
def FnSetsWrongFalsely : Prop := fnSetsRow.holds Try.pinned (OpenSpec.ofChange fnSetsWrong)

/-- 'laws.FnExactNextSet': WHATEVER THE INPUT: true; the input reads as it did. -/
def fnExactNextSetSpec : ChangeSpec := { name := "fnExactNextSet", fn := fun _ => fun
  | [d1, d2] => { results := [.lit (.bool true)], args := [d1, d2] }
  | _ => none }
def fnExactNextSetRow : OpenClaim := { program := "ytagcgafddchobaa", sum := "d5965ff819261be3948bdbb5b0b06544a2f708e30d944c5670432ae0091eb0f4", func := "loop.example/g00822/laws.FnExactNextSet", spec := "fnExactNextSet", apart := false }
def FnExactNextSetSaid : Prop := fnExactNextSetRow.holds Try.pinned (OpenSpec.ofChange fnExactNextSetSpec)

/-- ITS FALSE NEIGHBOUR: 'it returns false'. Refute it at one input. -/
def fnExactNextSetWrong : ChangeSpec := { name := "fnExactNextSet", fn := fun _ => fun
  | [d1, d2] => { results := [.lit (.bool false)], args := [d1, d2] }
  | _ => none }
def FnExactNextSetWrongFalsely : Prop := fnExactNextSetRow.holds Try.pinned (OpenSpec.ofChange fnExactNextSetWrong)

/-- 'laws.FnExactPlanCost': WHATEVER THE INPUT: true; the input reads as it did. -/
def fnExactPlanCostSpec : ChangeSpec := { name := "fnExactPlanCost", fn := fun _ => fun
  | [d1, d2] => { results := [.lit (.bool true)], args := [d1, d2] }
  | _ => none }
def fnExactPlanCostRow : OpenClaim := { program := "ytagcgafddchobaa", sum := "d5965ff819261be3948bdbb5b0b06544a2f708e30d944c5670432ae0091eb0f4", func := "loop.example/g00822/laws.FnExactPlanCost", spec := "fnExactPlanCost", apart := false }
def FnExactPlanCostSaid : Prop := fnExactPlanCostRow.holds Try.pinned (OpenSpec.ofChange fnExactPlanCostSpec)

/-- ITS FALSE NEIGHBOUR: 'it returns false'. Refute it at one input. -/
def fnExactPlanCostWrong : ChangeSpec := { name := "fnExactPlanCost", fn := fun _ => fun
  | [d1, d2] => { results := [.lit (.bool false)], args := [d1, d2] }
  | _ => none }
def FnExactPlanCostWrongFalsely : Prop := fnExactPlanCostRow.holds Try.pinned (OpenSpec.ofChange fnExactPlanCostWrong)

/-- 'laws.FnExactSameEstimates': WHATEVER THE INPUT: true; the input reads as it did. -/
def fnExactSameEstimatesSpec : ChangeSpec := { name := "fnExactSameEstimates", fn := fun _ => fun
  | [d1, d2] => { results := [.lit (.bool true)], args := [d1, d2] }
  | _ => none }
def fnExactSameEstimatesRow : OpenClaim := { program := "ytagcgafddchobaa", sum := "d5965ff819261be3948bdbb5b0b06544a2f708e30d944c5670432ae0091eb0f4", func := "loop.example/g00822/laws.FnExactSameEstimates", spec := "fnExactSameEstimates", apart := false }
def FnExactSameEstimatesSaid : Prop := fnExactSameEstimatesRow.holds Try.pinned (OpenSpec.ofChange fnExactSameEstimatesSpec)

/-- ITS FALSE NEIGHBOUR: 'it returns false'. Refute it at one input. -/
def fnExactSameEstimatesWrong : ChangeSpec := { name := "fnExactSameEstimates", fn := fun _ => fun
  | [d1, d2] => { results := [.lit (.bool false)], args := [d1, d2] }
  | _ => none }
def FnExactSameEstimatesWrongFalsely : Prop := fnExactSameEstimatesRow.holds Try.pinned (OpenSpec.ofChange fnExactSameEstimatesWrong)

/- THE SECOND FORM. 'bulk': how many values and letters a reading holds, each counted each time it is reached (what is shared counts as often as it is met; a slice's spare places count too). A statement '..UptoSaid' is the law's where the arguments, and the package variables that the reading takes, are together of bulk at most 1048576: NARROWER than '..Said'. Prove '..Said' where nothing that the law and all that it calls make is longer than what came in: it says more and counts as full. Else prove '..UptoSaid'. A law counts once. -/
mutual
def uptoBulk {H : Type} : DataW H → Nat
  | .lit (.string bytes) => bytes.length + 1
  | .lit _ => 1
  | .nil => 1
  | .ptr d => uptoBulk d + 1
  | .slice elems spare => uptoBulkAll elems + uptoBulkAll spare + 1
  | .agg parts => uptoBulkAll parts + 1
  | .iface _ d => uptoBulk d + 1
  | .map entries => uptoBulkEntries entries + 1
  | .held _ => 1
def uptoBulkAll {H : Type} : List (DataW H) → Nat
  | [] => 0
  | d :: r => uptoBulk d + uptoBulkAll r
def uptoBulkEntries {H : Type} : List (Lit × DataW H) → Nat
  | [] => 0
  | x :: r => uptoBulkEntry x + uptoBulkEntries r
def uptoBulkEntry {H : Type} : Lit × DataW H → Nat
  | (.string bytes, d) => bytes.length + uptoBulk d + 1
  | (_, d) => uptoBulk d + 1
 end
def uptoSmall : (H : Type) → List (DataW H) → Bool := fun _ ds => decide (uptoBulkAll ds ≤ 1048576)
def OpenSpec.upto (s : _root_.Go.ChangeSpec) : _root_.Go.OpenSpec := { _root_.Go.OpenSpec.ofChange s with cond := some uptoSmall }

/-- 'laws.FnExactSumOfText', WHERE WHAT IT READS IS OF BULK AT MOST 1048576: true; the input reads as it did. -/
def fnExactSumOfTextUptoRow : OpenClaim := { program := "ytagcgafddchobaa", sum := "d5965ff819261be3948bdbb5b0b06544a2f708e30d944c5670432ae0091eb0f4", func := "loop.example/g00822/laws.FnExactSumOfText", spec := "fnExactSumOfText", apart := false, narrowed := true }
def FnExactSumOfTextUptoSaid : Prop := fnExactSumOfTextUptoRow.holds Try.pinned (OpenSpec.upto fnExactSumOfTextSpec)

/-- 'laws.FnExactCountSets', WHERE WHAT IT READS IS OF BULK AT MOST 1048576: true; the input reads as it did. -/
def fnExactCountSetsUptoRow : OpenClaim := { program := "ytagcgafddchobaa", sum := "d5965ff819261be3948bdbb5b0b06544a2f708e30d944c5670432ae0091eb0f4", func := "loop.example/g00822/laws.FnExactCountSets", spec := "fnExactCountSets", apart := false, narrowed := true }
def FnExactCountSetsUptoSaid : Prop := fnExactCountSetsUptoRow.holds Try.pinned (OpenSpec.upto fnExactCountSetsSpec)

/-- 'laws.FnExactFirstSet', WHERE WHAT IT READS IS OF BULK AT MOST 1048576: true; the input reads as it did. -/
def fnExactFirstSetUptoRow : OpenClaim := { program := "ytagcgafddchobaa", sum := "d5965ff819261be3948bdbb5b0b06544a2f708e30d944c5670432ae0091eb0f4", func := "loop.example/g00822/laws.FnExactFirstSet", spec := "fnExactFirstSet", apart := false, narrowed := true }
def FnExactFirstSetUptoSaid : Prop := fnExactFirstSetUptoRow.holds Try.pinned (OpenSpec.upto fnExactFirstSetSpec)

/-- 'laws.FnSets', WHERE WHAT IT READS IS OF BULK AT MOST 1048576: true; the input reads as it did. -/
def fnSetsUptoRow : OpenClaim := { program := "ytagcgafddchobaa", sum := "d5965ff819261be3948bdbb5b0b06544a2f708e30d944c5670432ae0091eb0f4", func := "loop.example/g00822/laws.FnSets", spec := "fnSets", apart := false, narrowed := true }
def FnSetsUptoSaid : Prop := fnSetsUptoRow.holds Try.pinned (OpenSpec.upto fnSetsSpec)

/-- 'laws.FnExactNextSet', WHERE WHAT IT READS IS OF BULK AT MOST 1048576: true; the input reads as it did. -/
def fnExactNextSetUptoRow : OpenClaim := { program := "ytagcgafddchobaa", sum := "d5965ff819261be3948bdbb5b0b06544a2f708e30d944c5670432ae0091eb0f4", func := "loop.example/g00822/laws.FnExactNextSet", spec := "fnExactNextSet", apart := false, narrowed := true }
def FnExactNextSetUptoSaid : Prop := fnExactNextSetUptoRow.holds Try.pinned (OpenSpec.upto fnExactNextSetSpec)

/-- 'laws.FnExactPlanCost', WHERE WHAT IT READS IS OF BULK AT MOST 1048576: true; the input reads as it did. -/
def fnExactPlanCostUptoRow : OpenClaim := { program := "ytagcgafddchobaa", sum := "d5965ff819261be3948bdbb5b0b06544a2f708e30d944c5670432ae0091eb0f4", func := "loop.example/g00822/laws.FnExactPlanCost", spec := "fnExactPlanCost", apart := false, narrowed := true }
def FnExactPlanCostUptoSaid : Prop := fnExactPlanCostUptoRow.holds Try.pinned (OpenSpec.upto fnExactPlanCostSpec)

/-- 'laws.FnExactSameEstimates', WHERE WHAT IT READS IS OF BULK AT MOST 1048576: true; the input reads as it did. -/
def fnExactSameEstimatesUptoRow : OpenClaim := { program := "ytagcgafddchobaa", sum := "d5965ff819261be3948bdbb5b0b06544a2f708e30d944c5670432ae0091eb0f4", func := "loop.example/g00822/laws.FnExactSameEstimates", spec := "fnExactSameEstimates", apart := false, narrowed := true }
def FnExactSameEstimatesUptoSaid : Prop := fnExactSameEstimatesUptoRow.holds Try.pinned (OpenSpec.upto fnExactSameEstimatesSpec)

end Rows
end Go.Proofs.Ytagcgafddchobaa
