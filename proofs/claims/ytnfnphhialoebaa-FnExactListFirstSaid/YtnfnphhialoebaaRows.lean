/-
  No cell of these rows narrows 'for every input' (looked for: loops, veiled, ifaces, maps, wideKeys, modest, calm, conditions, laid).
  DERIVED. THE GIVEN ROWS OF THIS SEAT. 12 by the template 'for every input the law returns true; each argument reads behind the call as it read before'; 0 by the template 'total and deterministic' (their statements: YtnfnphhialoebaaTotals.lean).
  GIVEN WITH THE SEED: the statements are not yours to turn. If you find one false, say at which input.
  Laid BY PROGRAM, IN A SANDBOX (cutbox-rows.mjs): the forced cells as the released guide's own fill.sh prints them over the translation 86dfeaae27203ebb… (all of the seat's roots in one cut). By AI agents, Wed Nov 11 2026. No macro, syntax, notation, axiom, sorry.
-/
import Derived.Test.YtnfnphhialoebaaChecked
import GoSem.Claim
import GoSem.ClaimJoined
import GoSem.ClaimMapViews
import Derived.JoinedTies
import Derived.KernelRfl
namespace Go.Proofs.Ytnfnphhialoebaa
/- THE CELL 'sum', in the pinned program and in every row, IS THE sha256 OF THE DUMP (.gsa) THAT YtnfnphhialoebaaProg.lean LOADS. Nothing in Lean hashes anything: it is a label: what it is worth is what the hold of that sum in a sandbox is worth. -/
noncomputable def Try.pinned : Pinned := { name := "ytnfnphhialoebaa", sum := "86dfeaae27203ebb077ba2ba974730626956bed9dec4c048dd8d332895ab5507", checked := Try.checked }
namespace Rows
def none {H : Type} : Left H := { results := [], args := [] }

/-- 'laws.FnExactConstants': WHATEVER THE INPUT: true; the input reads as it did. -/
def fnExactConstantsSpec : ChangeSpec := { name := "fnExactConstants", fn := fun _ => fun
  | [] => { results := [.lit (.bool true)], args := [] }
  | _ => none }
def fnExactConstantsRow : OpenClaim := { program := "ytnfnphhialoebaa", sum := "86dfeaae27203ebb077ba2ba974730626956bed9dec4c048dd8d332895ab5507", func := "loop.example/tuggers/laws.FnExactConstants", spec := "fnExactConstants", apart := false }
def FnExactConstantsSaid : Prop := fnExactConstantsRow.holds Try.pinned (OpenSpec.ofChange fnExactConstantsSpec)

/-- ITS FALSE NEIGHBOUR: 'it returns false'. Refute it at one input. -/
def fnExactConstantsWrong : ChangeSpec := { name := "fnExactConstants", fn := fun _ => fun
  | [] => { results := [.lit (.bool false)], args := [] }
  | _ => none }
def FnExactConstantsWrongFalsely : Prop := fnExactConstantsRow.holds Try.pinned (OpenSpec.ofChange fnExactConstantsWrong)

/-- 'laws.FnExactWrdMark': WHATEVER THE INPUT: true; the input reads as it did. -/
def fnExactWrdMarkSpec : ChangeSpec := { name := "fnExactWrdMark", fn := fun _ => fun
  | [d] => { results := [.lit (.bool true)], args := [d] }
  | _ => none }
def fnExactWrdMarkRow : OpenClaim := { program := "ytnfnphhialoebaa", sum := "86dfeaae27203ebb077ba2ba974730626956bed9dec4c048dd8d332895ab5507", func := "loop.example/tuggers/laws.FnExactWrdMark", spec := "fnExactWrdMark", apart := false }
def FnExactWrdMarkSaid : Prop := fnExactWrdMarkRow.holds Try.pinned (OpenSpec.ofChange fnExactWrdMarkSpec)

/-- ITS FALSE NEIGHBOUR: 'it returns false'. Refute it at one input. -/
def fnExactWrdMarkWrong : ChangeSpec := { name := "fnExactWrdMark", fn := fun _ => fun
  | [d] => { results := [.lit (.bool false)], args := [d] }
  | _ => none }
def FnExactWrdMarkWrongFalsely : Prop := fnExactWrdMarkRow.holds Try.pinned (OpenSpec.ofChange fnExactWrdMarkWrong)

/-- 'laws.FnExactWrdTo': WHATEVER THE INPUT: true; the input reads as it did. -/
def fnExactWrdToSpec : ChangeSpec := { name := "fnExactWrdTo", fn := fun _ => fun
  | [d] => { results := [.lit (.bool true)], args := [d] }
  | _ => none }
def fnExactWrdToRow : OpenClaim := { program := "ytnfnphhialoebaa", sum := "86dfeaae27203ebb077ba2ba974730626956bed9dec4c048dd8d332895ab5507", func := "loop.example/tuggers/laws.FnExactWrdTo", spec := "fnExactWrdTo", apart := false }
def FnExactWrdToSaid : Prop := fnExactWrdToRow.holds Try.pinned (OpenSpec.ofChange fnExactWrdToSpec)

/-- ITS FALSE NEIGHBOUR: 'it returns false'. Refute it at one input. -/
def fnExactWrdToWrong : ChangeSpec := { name := "fnExactWrdTo", fn := fun _ => fun
  | [d] => { results := [.lit (.bool false)], args := [d] }
  | _ => none }
def FnExactWrdToWrongFalsely : Prop := fnExactWrdToRow.holds Try.pinned (OpenSpec.ofChange fnExactWrdToWrong)

/-- 'laws.FnExactWrdMake': WHATEVER THE INPUT: true; the input reads as it did. -/
def fnExactWrdMakeSpec : ChangeSpec := { name := "fnExactWrdMake", fn := fun _ => fun
  | [d1, d2] => { results := [.lit (.bool true)], args := [d1, d2] }
  | _ => none }
def fnExactWrdMakeRow : OpenClaim := { program := "ytnfnphhialoebaa", sum := "86dfeaae27203ebb077ba2ba974730626956bed9dec4c048dd8d332895ab5507", func := "loop.example/tuggers/laws.FnExactWrdMake", spec := "fnExactWrdMake", apart := false }
def FnExactWrdMakeSaid : Prop := fnExactWrdMakeRow.holds Try.pinned (OpenSpec.ofChange fnExactWrdMakeSpec)

/-- ITS FALSE NEIGHBOUR: 'it returns false'. Refute it at one input. -/
def fnExactWrdMakeWrong : ChangeSpec := { name := "fnExactWrdMake", fn := fun _ => fun
  | [d1, d2] => { results := [.lit (.bool false)], args := [d1, d2] }
  | _ => none }
def FnExactWrdMakeWrongFalsely : Prop := fnExactWrdMakeRow.holds Try.pinned (OpenSpec.ofChange fnExactWrdMakeWrong)

/-- 'laws.FnExactOpOk': WHATEVER THE INPUT: true; the input reads as it did. -/
def fnExactOpOkSpec : ChangeSpec := { name := "fnExactOpOk", fn := fun _ => fun
  | [d] => { results := [.lit (.bool true)], args := [d] }
  | _ => none }
def fnExactOpOkRow : OpenClaim := { program := "ytnfnphhialoebaa", sum := "86dfeaae27203ebb077ba2ba974730626956bed9dec4c048dd8d332895ab5507", func := "loop.example/tuggers/laws.FnExactOpOk", spec := "fnExactOpOk", apart := false }
def FnExactOpOkSaid : Prop := fnExactOpOkRow.holds Try.pinned (OpenSpec.ofChange fnExactOpOkSpec)

/-- ITS FALSE NEIGHBOUR: 'it returns false'. Refute it at one input. -/
def fnExactOpOkWrong : ChangeSpec := { name := "fnExactOpOk", fn := fun _ => fun
  | [d] => { results := [.lit (.bool false)], args := [d] }
  | _ => none }
def FnExactOpOkWrongFalsely : Prop := fnExactOpOkRow.holds Try.pinned (OpenSpec.ofChange fnExactOpOkWrong)

/-- 'laws.FnExactListFirst': WHATEVER THE INPUT: true; the input reads as it did. -/
def fnExactListFirstSpec : ChangeSpec := { name := "fnExactListFirst", fn := fun _ => fun
  | [d] => { results := [.lit (.bool true)], args := [d] }
  | _ => none }
def fnExactListFirstRow : OpenClaim := { program := "ytnfnphhialoebaa", sum := "86dfeaae27203ebb077ba2ba974730626956bed9dec4c048dd8d332895ab5507", func := "loop.example/tuggers/laws.FnExactListFirst", spec := "fnExactListFirst", apart := false }
def FnExactListFirstSaid : Prop := fnExactListFirstRow.holds Try.pinned (OpenSpec.ofChange fnExactListFirstSpec)

/-- ITS FALSE NEIGHBOUR: 'it returns false'. Refute it at one input. -/
def fnExactListFirstWrong : ChangeSpec := { name := "fnExactListFirst", fn := fun _ => fun
  | [d] => { results := [.lit (.bool false)], args := [d] }
  | _ => none }
def FnExactListFirstWrongFalsely : Prop := fnExactListFirstRow.holds Try.pinned (OpenSpec.ofChange fnExactListFirstWrong)

/-- 'laws.FnExactMapOk': WHATEVER THE INPUT: true; the input reads as it did. -/
def fnExactMapOkSpec : ChangeSpec := { name := "fnExactMapOk", fn := fun _ => fun
  | [d] => { results := [.lit (.bool true)], args := [d] }
  | _ => none }
def fnExactMapOkRow : OpenClaim := { program := "ytnfnphhialoebaa", sum := "86dfeaae27203ebb077ba2ba974730626956bed9dec4c048dd8d332895ab5507", func := "loop.example/tuggers/laws.FnExactMapOk", spec := "fnExactMapOk", apart := false }
def FnExactMapOkSaid : Prop := fnExactMapOkRow.holds Try.pinned (OpenSpec.ofChange fnExactMapOkSpec)

/-- ITS FALSE NEIGHBOUR: 'it returns false'. Refute it at one input. -/
def fnExactMapOkWrong : ChangeSpec := { name := "fnExactMapOk", fn := fun _ => fun
  | [d] => { results := [.lit (.bool false)], args := [d] }
  | _ => none }
def FnExactMapOkWrongFalsely : Prop := fnExactMapOkRow.holds Try.pinned (OpenSpec.ofChange fnExactMapOkWrong)

/-- 'laws.FnExactMapNext': WHATEVER THE INPUT: true; the input reads as it did. -/
def fnExactMapNextSpec : ChangeSpec := { name := "fnExactMapNext", fn := fun _ => fun
  | [d1, d2] => { results := [.lit (.bool true)], args := [d1, d2] }
  | _ => none }
def fnExactMapNextRow : OpenClaim := { program := "ytnfnphhialoebaa", sum := "86dfeaae27203ebb077ba2ba974730626956bed9dec4c048dd8d332895ab5507", func := "loop.example/tuggers/laws.FnExactMapNext", spec := "fnExactMapNext", apart := false }
def FnExactMapNextSaid : Prop := fnExactMapNextRow.holds Try.pinned (OpenSpec.ofChange fnExactMapNextSpec)

/-- ITS FALSE NEIGHBOUR: 'it returns false'. Refute it at one input. -/
def fnExactMapNextWrong : ChangeSpec := { name := "fnExactMapNext", fn := fun _ => fun
  | [d1, d2] => { results := [.lit (.bool false)], args := [d1, d2] }
  | _ => none }
def FnExactMapNextWrongFalsely : Prop := fnExactMapNextRow.holds Try.pinned (OpenSpec.ofChange fnExactMapNextWrong)

/-- 'laws.FnExactMapCount': WHATEVER THE INPUT: true; the input reads as it did. -/
def fnExactMapCountSpec : ChangeSpec := { name := "fnExactMapCount", fn := fun _ => fun
  | [d1, d2] => { results := [.lit (.bool true)], args := [d1, d2] }
  | _ => none }
def fnExactMapCountRow : OpenClaim := { program := "ytnfnphhialoebaa", sum := "86dfeaae27203ebb077ba2ba974730626956bed9dec4c048dd8d332895ab5507", func := "loop.example/tuggers/laws.FnExactMapCount", spec := "fnExactMapCount", apart := false }
def FnExactMapCountSaid : Prop := fnExactMapCountRow.holds Try.pinned (OpenSpec.ofChange fnExactMapCountSpec)

/-- ITS FALSE NEIGHBOUR: 'it returns false'. Refute it at one input. -/
def fnExactMapCountWrong : ChangeSpec := { name := "fnExactMapCount", fn := fun _ => fun
  | [d1, d2] => { results := [.lit (.bool false)], args := [d1, d2] }
  | _ => none }
def FnExactMapCountWrongFalsely : Prop := fnExactMapCountRow.holds Try.pinned (OpenSpec.ofChange fnExactMapCountWrong)

/-- 'laws.FnExactMapGet': WHATEVER THE INPUT: true; the input reads as it did. -/
def fnExactMapGetSpec : ChangeSpec := { name := "fnExactMapGet", fn := fun _ => fun
  | [d1, d2] => { results := [.lit (.bool true)], args := [d1, d2] }
  | _ => none }
def fnExactMapGetRow : OpenClaim := { program := "ytnfnphhialoebaa", sum := "86dfeaae27203ebb077ba2ba974730626956bed9dec4c048dd8d332895ab5507", func := "loop.example/tuggers/laws.FnExactMapGet", spec := "fnExactMapGet", apart := false }
def FnExactMapGetSaid : Prop := fnExactMapGetRow.holds Try.pinned (OpenSpec.ofChange fnExactMapGetSpec)

/-- ITS FALSE NEIGHBOUR: 'it returns false'. Refute it at one input. -/
def fnExactMapGetWrong : ChangeSpec := { name := "fnExactMapGet", fn := fun _ => fun
  | [d1, d2] => { results := [.lit (.bool false)], args := [d1, d2] }
  | _ => none }
def FnExactMapGetWrongFalsely : Prop := fnExactMapGetRow.holds Try.pinned (OpenSpec.ofChange fnExactMapGetWrong)

/-- 'laws.FnExactArnFree': WHATEVER THE INPUT: true; the input reads as it did. -/
def fnExactArnFreeSpec : ChangeSpec := { name := "fnExactArnFree", fn := fun _ => fun
  | [d] => { results := [.lit (.bool true)], args := [d] }
  | _ => none }
def fnExactArnFreeRow : OpenClaim := { program := "ytnfnphhialoebaa", sum := "86dfeaae27203ebb077ba2ba974730626956bed9dec4c048dd8d332895ab5507", func := "loop.example/tuggers/laws.FnExactArnFree", spec := "fnExactArnFree", apart := false }
def FnExactArnFreeSaid : Prop := fnExactArnFreeRow.holds Try.pinned (OpenSpec.ofChange fnExactArnFreeSpec)

/-- ITS FALSE NEIGHBOUR: 'it returns false'. Refute it at one input. -/
def fnExactArnFreeWrong : ChangeSpec := { name := "fnExactArnFree", fn := fun _ => fun
  | [d] => { results := [.lit (.bool false)], args := [d] }
  | _ => none }
def FnExactArnFreeWrongFalsely : Prop := fnExactArnFreeRow.holds Try.pinned (OpenSpec.ofChange fnExactArnFreeWrong)

/-- 'laws.FnExactHndBegin': WHATEVER THE INPUT: true; the input reads as it did. -/
def fnExactHndBeginSpec : ChangeSpec := { name := "fnExactHndBegin", fn := fun _ => fun
  | [d1, d2, d3] => { results := [.lit (.bool true)], args := [d1, d2, d3] }
  | _ => none }
def fnExactHndBeginRow : OpenClaim := { program := "ytnfnphhialoebaa", sum := "86dfeaae27203ebb077ba2ba974730626956bed9dec4c048dd8d332895ab5507", func := "loop.example/tuggers/laws.FnExactHndBegin", spec := "fnExactHndBegin", apart := false }
def FnExactHndBeginSaid : Prop := fnExactHndBeginRow.holds Try.pinned (OpenSpec.ofChange fnExactHndBeginSpec)

/-- ITS FALSE NEIGHBOUR: 'it returns false'. Refute it at one input. -/
def fnExactHndBeginWrong : ChangeSpec := { name := "fnExactHndBegin", fn := fun _ => fun
  | [d1, d2, d3] => { results := [.lit (.bool false)], args := [d1, d2, d3] }
  | _ => none }
def FnExactHndBeginWrongFalsely : Prop := fnExactHndBeginRow.holds Try.pinned (OpenSpec.ofChange fnExactHndBeginWrong)

/- THE SECOND FORM. 'bulk': how many values and letters a reading holds, each counted each time it is reached (what is shared counts as often as it is met; a slice's spare places count too). A statement '..UptoSaid' is the law's where the arguments, and the package variables that the reading takes, are together of bulk at most 1048576: NARROWER than '..Said'. Prove '..Said' where nothing that the law and all that it calls make is longer than what came in: it says more and counts as full. Else prove '..UptoSaid'. A law counts once. -/
mutual
def uptoBulk {H : Type} : DataW H → Nat
  | .lit (.string bytes) => bytes.length + 1
  | .lit _ => 1
  | .nil => 1
  | .ptr d => uptoBulk d + 1
  | .slice elems spare => uptoBulkAll elems + uptoBulkAll spare + 1
  | .agg parts => uptoBulkAll parts + 1
  | .iface _ d => uptoBulk d + 1
  | .map entries => uptoBulkEntries entries + 1
  | .held _ => 1
def uptoBulkAll {H : Type} : List (DataW H) → Nat
  | [] => 0
  | d :: r => uptoBulk d + uptoBulkAll r
def uptoBulkEntries {H : Type} : List (Lit × DataW H) → Nat
  | [] => 0
  | x :: r => uptoBulkEntry x + uptoBulkEntries r
def uptoBulkEntry {H : Type} : Lit × DataW H → Nat
  | (.string bytes, d) => bytes.length + uptoBulk d + 1
  | (_, d) => uptoBulk d + 1
 end
def uptoSmall : (H : Type) → List (DataW H) → Bool := fun _ ds => decide (uptoBulkAll ds ≤ 1048576)
def OpenSpec.upto (s : _root_.Go.ChangeSpec) : _root_.Go.OpenSpec := { _root_.Go.OpenSpec.ofChange s with cond := some uptoSmall }

/-- 'laws.FnExactConstants', WHERE WHAT IT READS IS OF BULK AT MOST 1048576: true; the input reads as it did. -/
def fnExactConstantsUptoRow : OpenClaim := { program := "ytnfnphhialoebaa", sum := "86dfeaae27203ebb077ba2ba974730626956bed9dec4c048dd8d332895ab5507", func := "loop.example/tuggers/laws.FnExactConstants", spec := "fnExactConstants", apart := false, narrowed := true }
def FnExactConstantsUptoSaid : Prop := fnExactConstantsUptoRow.holds Try.pinned (OpenSpec.upto fnExactConstantsSpec)

/-- 'laws.FnExactWrdMark', WHERE WHAT IT READS IS OF BULK AT MOST 1048576: true; the input reads as it did. -/
def fnExactWrdMarkUptoRow : OpenClaim := { program := "ytnfnphhialoebaa", sum := "86dfeaae27203ebb077ba2ba974730626956bed9dec4c048dd8d332895ab5507", func := "loop.example/tuggers/laws.FnExactWrdMark", spec := "fnExactWrdMark", apart := false, narrowed := true }
def FnExactWrdMarkUptoSaid : Prop := fnExactWrdMarkUptoRow.holds Try.pinned (OpenSpec.upto fnExactWrdMarkSpec)

/-- 'laws.FnExactWrdTo', WHERE WHAT IT READS IS OF BULK AT MOST 1048576: true; the input reads as it did. -/
def fnExactWrdToUptoRow : OpenClaim := { program := "ytnfnphhialoebaa", sum := "86dfeaae27203ebb077ba2ba974730626956bed9dec4c048dd8d332895ab5507", func := "loop.example/tuggers/laws.FnExactWrdTo", spec := "fnExactWrdTo", apart := false, narrowed := true }
def FnExactWrdToUptoSaid : Prop := fnExactWrdToUptoRow.holds Try.pinned (OpenSpec.upto fnExactWrdToSpec)

/-- 'laws.FnExactWrdMake', WHERE WHAT IT READS IS OF BULK AT MOST 1048576: true; the input reads as it did. -/
def fnExactWrdMakeUptoRow : OpenClaim := { program := "ytnfnphhialoebaa", sum := "86dfeaae27203ebb077ba2ba974730626956bed9dec4c048dd8d332895ab5507", func := "loop.example/tuggers/laws.FnExactWrdMake", spec := "fnExactWrdMake", apart := false, narrowed := true }
def FnExactWrdMakeUptoSaid : Prop := fnExactWrdMakeUptoRow.holds Try.pinned (OpenSpec.upto fnExactWrdMakeSpec)

/-- 'laws.FnExactOpOk', WHERE WHAT IT READS IS OF BULK AT MOST 1048576: true; the input reads as it did. -/
def fnExactOpOkUptoRow : OpenClaim := { program := "ytnfnphhialoebaa", sum := "86dfeaae27203ebb077ba2ba974730626956bed9dec4c048dd8d332895ab5507", func := "loop.example/tuggers/laws.FnExactOpOk", spec := "fnExactOpOk", apart := false, narrowed := true }
def FnExactOpOkUptoSaid : Prop := fnExactOpOkUptoRow.holds Try.pinned (OpenSpec.upto fnExactOpOkSpec)

/-- 'laws.FnExactListFirst', WHERE WHAT IT READS IS OF BULK AT MOST 1048576: true; the input reads as it did. -/
def fnExactListFirstUptoRow : OpenClaim := { program := "ytnfnphhialoebaa", sum := "86dfeaae27203ebb077ba2ba974730626956bed9dec4c048dd8d332895ab5507", func := "loop.example/tuggers/laws.FnExactListFirst", spec := "fnExactListFirst", apart := false, narrowed := true }
def FnExactListFirstUptoSaid : Prop := fnExactListFirstUptoRow.holds Try.pinned (OpenSpec.upto fnExactListFirstSpec)

/-- 'laws.FnExactMapOk', WHERE WHAT IT READS IS OF BULK AT MOST 1048576: true; the input reads as it did. -/
def fnExactMapOkUptoRow : OpenClaim := { program := "ytnfnphhialoebaa", sum := "86dfeaae27203ebb077ba2ba974730626956bed9dec4c048dd8d332895ab5507", func := "loop.example/tuggers/laws.FnExactMapOk", spec := "fnExactMapOk", apart := false, narrowed := true }
def FnExactMapOkUptoSaid : Prop := fnExactMapOkUptoRow.holds Try.pinned (OpenSpec.upto fnExactMapOkSpec)

/-- 'laws.FnExactMapNext', WHERE WHAT IT READS IS OF BULK AT MOST 1048576: true; the input reads as it did. -/
def fnExactMapNextUptoRow : OpenClaim := { program := "ytnfnphhialoebaa", sum := "86dfeaae27203ebb077ba2ba974730626956bed9dec4c048dd8d332895ab5507", func := "loop.example/tuggers/laws.FnExactMapNext", spec := "fnExactMapNext", apart := false, narrowed := true }
def FnExactMapNextUptoSaid : Prop := fnExactMapNextUptoRow.holds Try.pinned (OpenSpec.upto fnExactMapNextSpec)

/-- 'laws.FnExactMapCount', WHERE WHAT IT READS IS OF BULK AT MOST 1048576: true; the input reads as it did. -/
def fnExactMapCountUptoRow : OpenClaim := { program := "ytnfnphhialoebaa", sum := "86dfeaae27203ebb077ba2ba974730626956bed9dec4c048dd8d332895ab5507", func := "loop.example/tuggers/laws.FnExactMapCount", spec := "fnExactMapCount", apart := false, narrowed := true }
def FnExactMapCountUptoSaid : Prop := fnExactMapCountUptoRow.holds Try.pinned (OpenSpec.upto fnExactMapCountSpec)

/-- 'laws.FnExactMapGet', WHERE WHAT IT READS IS OF BULK AT MOST 1048576: true; the input reads as it did. -/
def fnExactMapGetUptoRow : OpenClaim := { program := "ytnfnphhialoebaa", sum := "86dfeaae27203ebb077ba2ba974730626956bed9dec4c048dd8d332895ab5507", func := "loop.example/tuggers/laws.FnExactMapGet", spec := "fnExactMapGet", apart := false, narrowed := true }
def FnExactMapGetUptoSaid : Prop := fnExactMapGetUptoRow.holds Try.pinned (OpenSpec.upto fnExactMapGetSpec)

/-- 'laws.FnExactArnFree', WHERE WHAT IT READS IS OF BULK AT MOST 1048576: true; the input reads as it did. -/
def fnExactArnFreeUptoRow : OpenClaim := { program := "ytnfnphhialoebaa", sum := "86dfeaae27203ebb077ba2ba974730626956bed9dec4c048dd8d332895ab5507", func := "loop.example/tuggers/laws.FnExactArnFree", spec := "fnExactArnFree", apart := false, narrowed := true }
def FnExactArnFreeUptoSaid : Prop := fnExactArnFreeUptoRow.holds Try.pinned (OpenSpec.upto fnExactArnFreeSpec)

/-- 'laws.FnExactHndBegin', WHERE WHAT IT READS IS OF BULK AT MOST 1048576: true; the input reads as it did. -/
def fnExactHndBeginUptoRow : OpenClaim := { program := "ytnfnphhialoebaa", sum := "86dfeaae27203ebb077ba2ba974730626956bed9dec4c048dd8d332895ab5507", func := "loop.example/tuggers/laws.FnExactHndBegin", spec := "fnExactHndBegin", apart := false, narrowed := true }
def FnExactHndBeginUptoSaid : Prop := fnExactHndBeginUptoRow.holds Try.pinned (OpenSpec.upto fnExactHndBeginSpec)

end Rows
end Go.Proofs.Ytnfnphhialoebaa
