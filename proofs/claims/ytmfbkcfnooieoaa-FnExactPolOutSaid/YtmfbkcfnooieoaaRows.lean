/-
  No cell of these rows narrows 'for every input' (looked for: loops, veiled, ifaces, maps, wideKeys, modest, calm, conditions, laid).
  DERIVED. THE GIVEN ROWS OF THIS SEAT. 11 by the template 'for every input the law returns true; each argument reads behind the call as it read before'; 0 by the template 'total and deterministic' (their statements: YtmfbkcfnooieoaaTotals.lean).
  GIVEN WITH THE SEED: the statements are not yours to turn. If you find one false, say at which input.
  Laid BY PROGRAM, IN A SANDBOX (cutbox-rows.mjs): the forced cells as the released guide's own fill.sh prints them over the translation 2f67670ab3ccc49d… (all of the seat's roots in one cut). By AI agents, Wed Nov 11 2026. No macro, syntax, notation, axiom, sorry.
-/
import Derived.Test.YtmfbkcfnooieoaaChecked
import GoSem.Claim
import GoSem.ClaimJoined
import GoSem.ClaimMapViews
import Derived.JoinedTies
import Derived.KernelRfl
namespace Go.Proofs.Ytmfbkcfnooieoaa
/- THE CELL 'sum', in the pinned program and in every row, IS THE sha256 OF THE DUMP (.gsa) THAT YtmfbkcfnooieoaaProg.lean LOADS. Nothing in Lean hashes anything: it is a label: what it is worth is what the hold of that sum in a sandbox is worth. -/
noncomputable def Try.pinned : Pinned := { name := "ytmfbkcfnooieoaa", sum := "2f67670ab3ccc49d2c04370e57b8d3969aa67dd5eda926b9eb1fa738a09d5acc", checked := Try.checked }
namespace Rows
def none {H : Type} : Left H := { results := [], args := [] }

/-- 'laws.FnExactArnNew': WHATEVER THE INPUT: true; the input reads as it did. -/
def fnExactArnNewSpec : ChangeSpec := { name := "fnExactArnNew", fn := fun _ => fun
  | [] => { results := [.lit (.bool true)], args := [] }
  | _ => none }
def fnExactArnNewRow : OpenClaim := { program := "ytmfbkcfnooieoaa", sum := "2f67670ab3ccc49d2c04370e57b8d3969aa67dd5eda926b9eb1fa738a09d5acc", func := "loop.example/tuggers/laws.FnExactArnNew", spec := "fnExactArnNew", apart := false }
def FnExactArnNewSaid : Prop := fnExactArnNewRow.holds Try.pinned (OpenSpec.ofChange fnExactArnNewSpec)

/-- ITS FALSE NEIGHBOUR: 'it returns false'. Refute it at one input. -/
def fnExactArnNewWrong : ChangeSpec := { name := "fnExactArnNew", fn := fun _ => fun
  | [] => { results := [.lit (.bool false)], args := [] }
  | _ => none }
def FnExactArnNewWrongFalsely : Prop := fnExactArnNewRow.holds Try.pinned (OpenSpec.ofChange fnExactArnNewWrong)

/-- 'laws.FnExactPolNew': WHATEVER THE INPUT: true; the input reads as it did. -/
def fnExactPolNewSpec : ChangeSpec := { name := "fnExactPolNew", fn := fun _ => fun
  | [] => { results := [.lit (.bool true)], args := [] }
  | _ => none }
def fnExactPolNewRow : OpenClaim := { program := "ytmfbkcfnooieoaa", sum := "2f67670ab3ccc49d2c04370e57b8d3969aa67dd5eda926b9eb1fa738a09d5acc", func := "loop.example/tuggers/laws.FnExactPolNew", spec := "fnExactPolNew", apart := false }
def FnExactPolNewSaid : Prop := fnExactPolNewRow.holds Try.pinned (OpenSpec.ofChange fnExactPolNewSpec)

/-- ITS FALSE NEIGHBOUR: 'it returns false'. Refute it at one input. -/
def fnExactPolNewWrong : ChangeSpec := { name := "fnExactPolNew", fn := fun _ => fun
  | [] => { results := [.lit (.bool false)], args := [] }
  | _ => none }
def FnExactPolNewWrongFalsely : Prop := fnExactPolNewRow.holds Try.pinned (OpenSpec.ofChange fnExactPolNewWrong)

/-- 'laws.FnExactArnChain': WHATEVER THE INPUT: true; the input reads as it did. -/
def fnExactArnChainSpec : ChangeSpec := { name := "fnExactArnChain", fn := fun _ => fun
  | [d] => { results := [.lit (.bool true)], args := [d] }
  | _ => none }
def fnExactArnChainRow : OpenClaim := { program := "ytmfbkcfnooieoaa", sum := "2f67670ab3ccc49d2c04370e57b8d3969aa67dd5eda926b9eb1fa738a09d5acc", func := "loop.example/tuggers/laws.FnExactArnChain", spec := "fnExactArnChain", apart := false }
def FnExactArnChainSaid : Prop := fnExactArnChainRow.holds Try.pinned (OpenSpec.ofChange fnExactArnChainSpec)

/-- ITS FALSE NEIGHBOUR: 'it returns false'. Refute it at one input. -/
def fnExactArnChainWrong : ChangeSpec := { name := "fnExactArnChain", fn := fun _ => fun
  | [d] => { results := [.lit (.bool false)], args := [d] }
  | _ => none }
def FnExactArnChainWrongFalsely : Prop := fnExactArnChainRow.holds Try.pinned (OpenSpec.ofChange fnExactArnChainWrong)

/-- 'laws.FnExactArnQueued': WHATEVER THE INPUT: true; the input reads as it did. -/
def fnExactArnQueuedSpec : ChangeSpec := { name := "fnExactArnQueued", fn := fun _ => fun
  | [d] => { results := [.lit (.bool true)], args := [d] }
  | _ => none }
def fnExactArnQueuedRow : OpenClaim := { program := "ytmfbkcfnooieoaa", sum := "2f67670ab3ccc49d2c04370e57b8d3969aa67dd5eda926b9eb1fa738a09d5acc", func := "loop.example/tuggers/laws.FnExactArnQueued", spec := "fnExactArnQueued", apart := false }
def FnExactArnQueuedSaid : Prop := fnExactArnQueuedRow.holds Try.pinned (OpenSpec.ofChange fnExactArnQueuedSpec)

/-- ITS FALSE NEIGHBOUR: 'it returns false'. Refute it at one input. -/
def fnExactArnQueuedWrong : ChangeSpec := { name := "fnExactArnQueued", fn := fun _ => fun
  | [d] => { results := [.lit (.bool false)], args := [d] }
  | _ => none }
def FnExactArnQueuedWrongFalsely : Prop := fnExactArnQueuedRow.holds Try.pinned (OpenSpec.ofChange fnExactArnQueuedWrong)

/-- 'laws.FnExactArnStacked': WHATEVER THE INPUT: true; the input reads as it did. -/
def fnExactArnStackedSpec : ChangeSpec := { name := "fnExactArnStacked", fn := fun _ => fun
  | [d] => { results := [.lit (.bool true)], args := [d] }
  | _ => none }
def fnExactArnStackedRow : OpenClaim := { program := "ytmfbkcfnooieoaa", sum := "2f67670ab3ccc49d2c04370e57b8d3969aa67dd5eda926b9eb1fa738a09d5acc", func := "loop.example/tuggers/laws.FnExactArnStacked", spec := "fnExactArnStacked", apart := false }
def FnExactArnStackedSaid : Prop := fnExactArnStackedRow.holds Try.pinned (OpenSpec.ofChange fnExactArnStackedSpec)

/-- ITS FALSE NEIGHBOUR: 'it returns false'. Refute it at one input. -/
def fnExactArnStackedWrong : ChangeSpec := { name := "fnExactArnStacked", fn := fun _ => fun
  | [d] => { results := [.lit (.bool false)], args := [d] }
  | _ => none }
def FnExactArnStackedWrongFalsely : Prop := fnExactArnStackedRow.holds Try.pinned (OpenSpec.ofChange fnExactArnStackedWrong)

/-- 'laws.FnExactArnGive': WHATEVER THE INPUT: true; the input reads as it did. -/
def fnExactArnGiveSpec : ChangeSpec := { name := "fnExactArnGive", fn := fun _ => fun
  | [d1, d2] => { results := [.lit (.bool true)], args := [d1, d2] }
  | _ => none }
def fnExactArnGiveRow : OpenClaim := { program := "ytmfbkcfnooieoaa", sum := "2f67670ab3ccc49d2c04370e57b8d3969aa67dd5eda926b9eb1fa738a09d5acc", func := "loop.example/tuggers/laws.FnExactArnGive", spec := "fnExactArnGive", apart := false }
def FnExactArnGiveSaid : Prop := fnExactArnGiveRow.holds Try.pinned (OpenSpec.ofChange fnExactArnGiveSpec)

/-- ITS FALSE NEIGHBOUR: 'it returns false'. Refute it at one input. -/
def fnExactArnGiveWrong : ChangeSpec := { name := "fnExactArnGive", fn := fun _ => fun
  | [d1, d2] => { results := [.lit (.bool false)], args := [d1, d2] }
  | _ => none }
def FnExactArnGiveWrongFalsely : Prop := fnExactArnGiveRow.holds Try.pinned (OpenSpec.ofChange fnExactArnGiveWrong)

/-- 'laws.FnExactArnSwap': WHATEVER THE INPUT: true; the input reads as it did. -/
def fnExactArnSwapSpec : ChangeSpec := { name := "fnExactArnSwap", fn := fun _ => fun
  | [d1, d2, d3, d4] => { results := [.lit (.bool true)], args := [d1, d2, d3, d4] }
  | _ => none }
def fnExactArnSwapRow : OpenClaim := { program := "ytmfbkcfnooieoaa", sum := "2f67670ab3ccc49d2c04370e57b8d3969aa67dd5eda926b9eb1fa738a09d5acc", func := "loop.example/tuggers/laws.FnExactArnSwap", spec := "fnExactArnSwap", apart := false }
def FnExactArnSwapSaid : Prop := fnExactArnSwapRow.holds Try.pinned (OpenSpec.ofChange fnExactArnSwapSpec)

/-- ITS FALSE NEIGHBOUR: 'it returns false'. Refute it at one input. -/
def fnExactArnSwapWrong : ChangeSpec := { name := "fnExactArnSwap", fn := fun _ => fun
  | [d1, d2, d3, d4] => { results := [.lit (.bool false)], args := [d1, d2, d3, d4] }
  | _ => none }
def FnExactArnSwapWrongFalsely : Prop := fnExactArnSwapRow.holds Try.pinned (OpenSpec.ofChange fnExactArnSwapWrong)

/-- 'laws.FnExactArnTake': WHATEVER THE INPUT: true; the input reads as it did. -/
def fnExactArnTakeSpec : ChangeSpec := { name := "fnExactArnTake", fn := fun _ => fun
  | [d] => { results := [.lit (.bool true)], args := [d] }
  | _ => none }
def fnExactArnTakeRow : OpenClaim := { program := "ytmfbkcfnooieoaa", sum := "2f67670ab3ccc49d2c04370e57b8d3969aa67dd5eda926b9eb1fa738a09d5acc", func := "loop.example/tuggers/laws.FnExactArnTake", spec := "fnExactArnTake", unfollowed := true, recurses := true, apart := false }
def FnExactArnTakeSaid : Prop := fnExactArnTakeRow.holds Try.pinned (OpenSpec.ofChange fnExactArnTakeSpec)

/-- ITS FALSE NEIGHBOUR: 'it returns false'. Refute it at one input. -/
def fnExactArnTakeWrong : ChangeSpec := { name := "fnExactArnTake", fn := fun _ => fun
  | [d] => { results := [.lit (.bool false)], args := [d] }
  | _ => none }
def FnExactArnTakeWrongFalsely : Prop := fnExactArnTakeRow.holds Try.pinned (OpenSpec.ofChange fnExactArnTakeWrong)

/-- 'laws.FnExactPolOut': WHATEVER THE INPUT: true; the input reads as it did. -/
def fnExactPolOutSpec : ChangeSpec := { name := "fnExactPolOut", fn := fun _ => fun
  | [d] => { results := [.lit (.bool true)], args := [d] }
  | _ => none }
def fnExactPolOutRow : OpenClaim := { program := "ytmfbkcfnooieoaa", sum := "2f67670ab3ccc49d2c04370e57b8d3969aa67dd5eda926b9eb1fa738a09d5acc", func := "loop.example/tuggers/laws.FnExactPolOut", spec := "fnExactPolOut", apart := false }
def FnExactPolOutSaid : Prop := fnExactPolOutRow.holds Try.pinned (OpenSpec.ofChange fnExactPolOutSpec)

/-- ITS FALSE NEIGHBOUR: 'it returns false'. Refute it at one input. -/
def fnExactPolOutWrong : ChangeSpec := { name := "fnExactPolOut", fn := fun _ => fun
  | [d] => { results := [.lit (.bool false)], args := [d] }
  | _ => none }
def FnExactPolOutWrongFalsely : Prop := fnExactPolOutRow.holds Try.pinned (OpenSpec.ofChange fnExactPolOutWrong)

/-- 'laws.FnExactPolFree': WHATEVER THE INPUT: true; the input reads as it did. -/
def fnExactPolFreeSpec : ChangeSpec := { name := "fnExactPolFree", fn := fun _ => fun
  | [d1, d2, d3] => { results := [.lit (.bool true)], args := [d1, d2, d3] }
  | _ => none }
def fnExactPolFreeRow : OpenClaim := { program := "ytmfbkcfnooieoaa", sum := "2f67670ab3ccc49d2c04370e57b8d3969aa67dd5eda926b9eb1fa738a09d5acc", func := "loop.example/tuggers/laws.FnExactPolFree", spec := "fnExactPolFree", unfollowed := true, recurses := true, apart := false }
def FnExactPolFreeSaid : Prop := fnExactPolFreeRow.holds Try.pinned (OpenSpec.ofChange fnExactPolFreeSpec)

/-- ITS FALSE NEIGHBOUR: 'it returns false'. Refute it at one input. -/
def fnExactPolFreeWrong : ChangeSpec := { name := "fnExactPolFree", fn := fun _ => fun
  | [d1, d2, d3] => { results := [.lit (.bool false)], args := [d1, d2, d3] }
  | _ => none }
def FnExactPolFreeWrongFalsely : Prop := fnExactPolFreeRow.holds Try.pinned (OpenSpec.ofChange fnExactPolFreeWrong)

/-- 'laws.FnExactPolOk': WHATEVER THE INPUT: true; the input reads as it did. -/
def fnExactPolOkSpec : ChangeSpec := { name := "fnExactPolOk", fn := fun _ => fun
  | [d] => { results := [.lit (.bool true)], args := [d] }
  | _ => none }
def fnExactPolOkRow : OpenClaim := { program := "ytmfbkcfnooieoaa", sum := "2f67670ab3ccc49d2c04370e57b8d3969aa67dd5eda926b9eb1fa738a09d5acc", func := "loop.example/tuggers/laws.FnExactPolOk", spec := "fnExactPolOk", apart := false }
def FnExactPolOkSaid : Prop := fnExactPolOkRow.holds Try.pinned (OpenSpec.ofChange fnExactPolOkSpec)

/-- ITS FALSE NEIGHBOUR: 'it returns false'. Refute it at one input. -/
def fnExactPolOkWrong : ChangeSpec := { name := "fnExactPolOk", fn := fun _ => fun
  | [d] => { results := [.lit (.bool false)], args := [d] }
  | _ => none }
def FnExactPolOkWrongFalsely : Prop := fnExactPolOkRow.holds Try.pinned (OpenSpec.ofChange fnExactPolOkWrong)

/- THE SECOND FORM. 'bulk': how many values and letters a reading holds, each counted each time it is reached (what is shared counts as often as it is met; a slice's spare places count too). A statement '..UptoSaid' is the law's where the arguments, and the package variables that the reading takes, are together of bulk at most 1048576: NARROWER than '..Said'. Prove '..Said' where nothing that the law and all that it calls make is longer than what came in: it says more and counts as full. Else prove '..UptoSaid'. A law counts once. -/
mutual
def uptoBulk {H : Type} : DataW H → Nat
  | .lit (.string bytes) => bytes.length + 1
  | .lit _ => 1
  | .nil => 1
  | .ptr d => uptoBulk d + 1
  | .slice elems spare => uptoBulkAll elems + uptoBulkAll spare + 1
  | .agg parts => uptoBulkAll parts + 1
  | .iface _ d => uptoBulk d + 1
  | .map entries => uptoBulkEntries entries + 1
  | .held _ => 1
def uptoBulkAll {H : Type} : List (DataW H) → Nat
  | [] => 0
  | d :: r => uptoBulk d + uptoBulkAll r
def uptoBulkEntries {H : Type} : List (Lit × DataW H) → Nat
  | [] => 0
  | x :: r => uptoBulkEntry x + uptoBulkEntries r
def uptoBulkEntry {H : Type} : Lit × DataW H → Nat
  | (.string bytes, d) => bytes.length + uptoBulk d + 1
  | (_, d) => uptoBulk d + 1
 end
def uptoSmall : (H : Type) → List (DataW H) → Bool := fun _ ds => decide (uptoBulkAll ds ≤ 1048576)
def OpenSpec.upto (s : _root_.Go.ChangeSpec) : _root_.Go.OpenSpec := { _root_.Go.OpenSpec.ofChange s with cond := some uptoSmall }

/-- 'laws.FnExactArnNew', WHERE WHAT IT READS IS OF BULK AT MOST 1048576: true; the input reads as it did. -/
def fnExactArnNewUptoRow : OpenClaim := { program := "ytmfbkcfnooieoaa", sum := "2f67670ab3ccc49d2c04370e57b8d3969aa67dd5eda926b9eb1fa738a09d5acc", func := "loop.example/tuggers/laws.FnExactArnNew", spec := "fnExactArnNew", apart := false, narrowed := true }
def FnExactArnNewUptoSaid : Prop := fnExactArnNewUptoRow.holds Try.pinned (OpenSpec.upto fnExactArnNewSpec)

/-- 'laws.FnExactPolNew', WHERE WHAT IT READS IS OF BULK AT MOST 1048576: true; the input reads as it did. -/
def fnExactPolNewUptoRow : OpenClaim := { program := "ytmfbkcfnooieoaa", sum := "2f67670ab3ccc49d2c04370e57b8d3969aa67dd5eda926b9eb1fa738a09d5acc", func := "loop.example/tuggers/laws.FnExactPolNew", spec := "fnExactPolNew", apart := false, narrowed := true }
def FnExactPolNewUptoSaid : Prop := fnExactPolNewUptoRow.holds Try.pinned (OpenSpec.upto fnExactPolNewSpec)

/-- 'laws.FnExactArnChain', WHERE WHAT IT READS IS OF BULK AT MOST 1048576: true; the input reads as it did. -/
def fnExactArnChainUptoRow : OpenClaim := { program := "ytmfbkcfnooieoaa", sum := "2f67670ab3ccc49d2c04370e57b8d3969aa67dd5eda926b9eb1fa738a09d5acc", func := "loop.example/tuggers/laws.FnExactArnChain", spec := "fnExactArnChain", apart := false, narrowed := true }
def FnExactArnChainUptoSaid : Prop := fnExactArnChainUptoRow.holds Try.pinned (OpenSpec.upto fnExactArnChainSpec)

/-- 'laws.FnExactArnQueued', WHERE WHAT IT READS IS OF BULK AT MOST 1048576: true; the input reads as it did. -/
def fnExactArnQueuedUptoRow : OpenClaim := { program := "ytmfbkcfnooieoaa", sum := "2f67670ab3ccc49d2c04370e57b8d3969aa67dd5eda926b9eb1fa738a09d5acc", func := "loop.example/tuggers/laws.FnExactArnQueued", spec := "fnExactArnQueued", apart := false, narrowed := true }
def FnExactArnQueuedUptoSaid : Prop := fnExactArnQueuedUptoRow.holds Try.pinned (OpenSpec.upto fnExactArnQueuedSpec)

/-- 'laws.FnExactArnStacked', WHERE WHAT IT READS IS OF BULK AT MOST 1048576: true; the input reads as it did. -/
def fnExactArnStackedUptoRow : OpenClaim := { program := "ytmfbkcfnooieoaa", sum := "2f67670ab3ccc49d2c04370e57b8d3969aa67dd5eda926b9eb1fa738a09d5acc", func := "loop.example/tuggers/laws.FnExactArnStacked", spec := "fnExactArnStacked", apart := false, narrowed := true }
def FnExactArnStackedUptoSaid : Prop := fnExactArnStackedUptoRow.holds Try.pinned (OpenSpec.upto fnExactArnStackedSpec)

/-- 'laws.FnExactArnGive', WHERE WHAT IT READS IS OF BULK AT MOST 1048576: true; the input reads as it did. -/
def fnExactArnGiveUptoRow : OpenClaim := { program := "ytmfbkcfnooieoaa", sum := "2f67670ab3ccc49d2c04370e57b8d3969aa67dd5eda926b9eb1fa738a09d5acc", func := "loop.example/tuggers/laws.FnExactArnGive", spec := "fnExactArnGive", apart := false, narrowed := true }
def FnExactArnGiveUptoSaid : Prop := fnExactArnGiveUptoRow.holds Try.pinned (OpenSpec.upto fnExactArnGiveSpec)

/-- 'laws.FnExactArnSwap', WHERE WHAT IT READS IS OF BULK AT MOST 1048576: true; the input reads as it did. -/
def fnExactArnSwapUptoRow : OpenClaim := { program := "ytmfbkcfnooieoaa", sum := "2f67670ab3ccc49d2c04370e57b8d3969aa67dd5eda926b9eb1fa738a09d5acc", func := "loop.example/tuggers/laws.FnExactArnSwap", spec := "fnExactArnSwap", apart := false, narrowed := true }
def FnExactArnSwapUptoSaid : Prop := fnExactArnSwapUptoRow.holds Try.pinned (OpenSpec.upto fnExactArnSwapSpec)

/-- 'laws.FnExactArnTake', WHERE WHAT IT READS IS OF BULK AT MOST 1048576: true; the input reads as it did. -/
def fnExactArnTakeUptoRow : OpenClaim := { program := "ytmfbkcfnooieoaa", sum := "2f67670ab3ccc49d2c04370e57b8d3969aa67dd5eda926b9eb1fa738a09d5acc", func := "loop.example/tuggers/laws.FnExactArnTake", spec := "fnExactArnTake", unfollowed := true, recurses := true, apart := false, narrowed := true }
def FnExactArnTakeUptoSaid : Prop := fnExactArnTakeUptoRow.holds Try.pinned (OpenSpec.upto fnExactArnTakeSpec)

/-- 'laws.FnExactPolOut', WHERE WHAT IT READS IS OF BULK AT MOST 1048576: true; the input reads as it did. -/
def fnExactPolOutUptoRow : OpenClaim := { program := "ytmfbkcfnooieoaa", sum := "2f67670ab3ccc49d2c04370e57b8d3969aa67dd5eda926b9eb1fa738a09d5acc", func := "loop.example/tuggers/laws.FnExactPolOut", spec := "fnExactPolOut", apart := false, narrowed := true }
def FnExactPolOutUptoSaid : Prop := fnExactPolOutUptoRow.holds Try.pinned (OpenSpec.upto fnExactPolOutSpec)

/-- 'laws.FnExactPolFree', WHERE WHAT IT READS IS OF BULK AT MOST 1048576: true; the input reads as it did. -/
def fnExactPolFreeUptoRow : OpenClaim := { program := "ytmfbkcfnooieoaa", sum := "2f67670ab3ccc49d2c04370e57b8d3969aa67dd5eda926b9eb1fa738a09d5acc", func := "loop.example/tuggers/laws.FnExactPolFree", spec := "fnExactPolFree", unfollowed := true, recurses := true, apart := false, narrowed := true }
def FnExactPolFreeUptoSaid : Prop := fnExactPolFreeUptoRow.holds Try.pinned (OpenSpec.upto fnExactPolFreeSpec)

/-- 'laws.FnExactPolOk', WHERE WHAT IT READS IS OF BULK AT MOST 1048576: true; the input reads as it did. -/
def fnExactPolOkUptoRow : OpenClaim := { program := "ytmfbkcfnooieoaa", sum := "2f67670ab3ccc49d2c04370e57b8d3969aa67dd5eda926b9eb1fa738a09d5acc", func := "loop.example/tuggers/laws.FnExactPolOk", spec := "fnExactPolOk", apart := false, narrowed := true }
def FnExactPolOkUptoSaid : Prop := fnExactPolOkUptoRow.holds Try.pinned (OpenSpec.upto fnExactPolOkSpec)

end Rows
end Go.Proofs.Ytmfbkcfnooieoaa
