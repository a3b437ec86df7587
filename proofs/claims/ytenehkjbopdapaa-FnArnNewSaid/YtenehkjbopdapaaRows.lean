/-
  No cell of these rows narrows 'for every input' (looked for: loops, veiled, ifaces, maps, wideKeys, modest, calm, conditions, laid).
  DERIVED. THE GIVEN ROWS OF THIS SEAT. 4 by the template 'for every input the law returns true; each argument reads behind the call as it read before'; 0 by the template 'total and deterministic' (their statements: YtenehkjbopdapaaTotals.lean).
  GIVEN WITH THE SEED: the statements are not yours to turn. If you find one false, say at which input.
  Laid BY PROGRAM, IN A SANDBOX (cutbox-rows.mjs): the forced cells as the released guide's own fill.sh prints them over the translation 1c93e3db03071d48… (all of the seat's roots in one cut). By AI agents, Wed Nov 11 2026. No macro, syntax, notation, axiom, sorry.
-/
import Derived.Test.YtenehkjbopdapaaChecked
import GoSem.Claim
import GoSem.ClaimJoined
import GoSem.ClaimMapViews
import Derived.JoinedTies
import Derived.KernelRfl
namespace Go.Proofs.Ytenehkjbopdapaa
/- THE CELL 'sum', in the pinned program and in every row, IS THE sha256 OF THE DUMP (.gsa) THAT YtenehkjbopdapaaProg.lean LOADS. Nothing in Lean hashes anything: it is a label: what it is worth is what the hold of that sum in a sandbox is worth. -/
noncomputable def Try.pinned : Pinned := { name := "ytenehkjbopdapaa", sum := "1c93e3db03071d480d7c0d0c95d380ea844cd39dfd064427367b32076318c5dd", checked := Try.checked }
namespace Rows
def none {H : Type} : Left H := { results := [], args := [] }

/-- 'laws.FnExactArnOk': WHATEVER THE INPUT: true; the input reads as it did. -/
def fnExactArnOkSpec : ChangeSpec := { name := "fnExactArnOk", fn := fun _ => fun
  | [d] => { results := [.lit (.bool true)], args := [d] }
  | _ => none }
def fnExactArnOkRow : OpenClaim := { program := "ytenehkjbopdapaa", sum := "1c93e3db03071d480d7c0d0c95d380ea844cd39dfd064427367b32076318c5dd", func := "loop.example/tuggers/laws.FnExactArnOk", spec := "fnExactArnOk", apart := false }
def FnExactArnOkSaid : Prop := fnExactArnOkRow.holds Try.pinned (OpenSpec.ofChange fnExactArnOkSpec)

/-- ITS FALSE NEIGHBOUR: 'it returns false'. Refute it at one input. -/
def fnExactArnOkWrong : ChangeSpec := { name := "fnExactArnOk", fn := fun _ => fun
  | [d] => { results := [.lit (.bool false)], args := [d] }
  | _ => none }
def FnExactArnOkWrongFalsely : Prop := fnExactArnOkRow.holds Try.pinned (OpenSpec.ofChange fnExactArnOkWrong)

/-- 'laws.FnExactArnQueue': WHATEVER THE INPUT: true; the input reads as it did. -/
def fnExactArnQueueSpec : ChangeSpec := { name := "fnExactArnQueue", fn := fun _ => fun
  | [d] => { results := [.lit (.bool true)], args := [d] }
  | _ => none }
def fnExactArnQueueRow : OpenClaim := { program := "ytenehkjbopdapaa", sum := "1c93e3db03071d480d7c0d0c95d380ea844cd39dfd064427367b32076318c5dd", func := "loop.example/tuggers/laws.FnExactArnQueue", spec := "fnExactArnQueue", apart := false }
def FnExactArnQueueSaid : Prop := fnExactArnQueueRow.holds Try.pinned (OpenSpec.ofChange fnExactArnQueueSpec)

/-- ITS FALSE NEIGHBOUR: 'it returns false'. Refute it at one input. -/
def fnExactArnQueueWrong : ChangeSpec := { name := "fnExactArnQueue", fn := fun _ => fun
  | [d] => { results := [.lit (.bool false)], args := [d] }
  | _ => none }
def FnExactArnQueueWrongFalsely : Prop := fnExactArnQueueRow.holds Try.pinned (OpenSpec.ofChange fnExactArnQueueWrong)

/-- 'laws.FnArnNew': WHATEVER THE INPUT: true; the input reads as it did. -/
def fnArnNewSpec : ChangeSpec := { name := "fnArnNew", fn := fun _ => fun
  | [d] => { results := [.lit (.bool true)], args := [d] }
  | _ => none }
def fnArnNewRow : OpenClaim := { program := "ytenehkjbopdapaa", sum := "1c93e3db03071d480d7c0d0c95d380ea844cd39dfd064427367b32076318c5dd", func := "loop.example/tuggers/laws.FnArnNew", spec := "fnArnNew", apart := false }
def FnArnNewSaid : Prop := fnArnNewRow.holds Try.pinned (OpenSpec.ofChange fnArnNewSpec)

/-- ITS FALSE NEIGHBOUR: 'it returns false'. Refute it at one input. -/
def fnArnNewWrong : ChangeSpec := { name := "fnArnNew", fn := fun _ => fun
  | [d] => { results := [.lit (.bool false)], args := [d] }
  | _ => none }
def FnArnNewWrongFalsely : Prop := fnArnNewRow.holds Try.pinned (OpenSpec.ofChange fnArnNewWrong)

/-- 'laws.FnExactLinSort': WHATEVER THE INPUT: true; the input reads as it did. -/
def fnExactLinSortSpec : ChangeSpec := { name := "fnExactLinSort", fn := fun _ => fun
  | [d] => { results := [.lit (.bool true)], args := [d] }
  | _ => none }
def fnExactLinSortRow : OpenClaim := { program := "ytenehkjbopdapaa", sum := "1c93e3db03071d480d7c0d0c95d380ea844cd39dfd064427367b32076318c5dd", func := "loop.example/tuggers/laws.FnExactLinSort", spec := "fnExactLinSort", unfollowed := true, recurses := true, apart := false }
def FnExactLinSortSaid : Prop := fnExactLinSortRow.holds Try.pinned (OpenSpec.ofChange fnExactLinSortSpec)

/-- ITS FALSE NEIGHBOUR: 'it returns false'. Refute it at one input. -/
def fnExactLinSortWrong : ChangeSpec := { name := "fnExactLinSort", fn := fun _ => fun
  | [d] => { results := [.lit (.bool false)], args := [d] }
  | _ => none }
def FnExactLinSortWrongFalsely : Prop := fnExactLinSortRow.holds Try.pinned (OpenSpec.ofChange fnExactLinSortWrong)

/- THE SECOND FORM. 'bulk': how many values and letters a reading holds, each counted each time it is reached (what is shared counts as often as it is met; a slice's spare places count too). A statement '..UptoSaid' is the law's where the arguments, and the package variables that the reading takes, are together of bulk at most 1048576: NARROWER than '..Said'. Prove '..Said' where nothing that the law and all that it calls make is longer than what came in: it says more and counts as full. Else prove '..UptoSaid'. A law counts once. -/
mutual
def uptoBulk {H : Type} : DataW H → Nat
  | .lit (.string bytes) => bytes.length + 1
  | .lit _ => 1
  | .nil => 1
  | .ptr d => uptoBulk d + 1
  | .slice elems spare => uptoBulkAll elems + uptoBulkAll spare + 1
  | .agg parts => uptoBulkAll parts + 1
  | .iface _ d => uptoBulk d + 1
  | .map entries => uptoBulkEntries entries + 1
  | .held _ => 1
def uptoBulkAll {H : Type} : List (DataW H) → Nat
  | [] => 0
  | d :: r => uptoBulk d + uptoBulkAll r
def uptoBulkEntries {H : Type} : List (Lit × DataW H) → Nat
  | [] => 0
  | x :: r => uptoBulkEntry x + uptoBulkEntries r
def uptoBulkEntry {H : Type} : Lit × DataW H → Nat
  | (.string bytes, d) => bytes.length + uptoBulk d + 1
  | (_, d) => uptoBulk d + 1
 end
def uptoSmall : (H : Type) → List (DataW H) → Bool := fun _ ds => decide (uptoBulkAll ds ≤ 1048576)
def OpenSpec.upto (s : _root_.Go.ChangeSpec) : _root_.Go.OpenSpec := { _root_.Go.OpenSpec.ofChange s with cond := some uptoSmall }

/-- 'laws.FnExactArnOk', WHERE WHAT IT READS IS OF BULK AT MOST 1048576: true; the input reads as it did. -/
def fnExactArnOkUptoRow : OpenClaim := { program := "ytenehkjbopdapaa", sum := "1c93e3db03071d480d7c0d0c95d380ea844cd39dfd064427367b32076318c5dd", func := "loop.example/tuggers/laws.FnExactArnOk", spec := "fnExactArnOk", apart := false, narrowed := true }
def FnExactArnOkUptoSaid : Prop := fnExactArnOkUptoRow.holds Try.pinned (OpenSpec.upto fnExactArnOkSpec)

/-- 'laws.FnExactArnQueue', WHERE WHAT IT READS IS OF BULK AT MOST 1048576: true; the input reads as it did. -/
def fnExactArnQueueUptoRow : OpenClaim := { program := "ytenehkjbopdapaa", sum := "1c93e3db03071d480d7c0d0c95d380ea844cd39dfd064427367b32076318c5dd", func := "loop.example/tuggers/laws.FnExactArnQueue", spec := "fnExactArnQueue", apart := false, narrowed := true }
def FnExactArnQueueUptoSaid : Prop := fnExactArnQueueUptoRow.holds Try.pinned (OpenSpec.upto fnExactArnQueueSpec)

/-- 'laws.FnArnNew', WHERE WHAT IT READS IS OF BULK AT MOST 1048576: true; the input reads as it did. -/
def fnArnNewUptoRow : OpenClaim := { program := "ytenehkjbopdapaa", sum := "1c93e3db03071d480d7c0d0c95d380ea844cd39dfd064427367b32076318c5dd", func := "loop.example/tuggers/laws.FnArnNew", spec := "fnArnNew", apart := false, narrowed := true }
def FnArnNewUptoSaid : Prop := fnArnNewUptoRow.holds Try.pinned (OpenSpec.upto fnArnNewSpec)

/-- 'laws.FnExactLinSort', WHERE WHAT IT READS IS OF BULK AT MOST 1048576: true; the input reads as it did. -/
def fnExactLinSortUptoRow : OpenClaim := { program := "ytenehkjbopdapaa", sum := "1c93e3db03071d480d7c0d0c95d380ea844cd39dfd064427367b32076318c5dd", func := "loop.example/tuggers/laws.FnExactLinSort", spec := "fnExactLinSort", unfollowed := true, recurses := true, apart := false, narrowed := true }
def FnExactLinSortUptoSaid : Prop := fnExactLinSortUptoRow.holds Try.pinned (OpenSpec.upto fnExactLinSortSpec)

end Rows
end Go.Proofs.Ytenehkjbopdapaa
