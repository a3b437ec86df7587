/-
  No cell of these rows narrows 'for every input' (looked for: loops, veiled, ifaces, maps, wideKeys, modest, calm, conditions, laid).
  DERIVED. THE GIVEN ROWS OF THIS SEAT. 8 by the template 'for every input the law returns true; each argument reads behind the call as it read before'; 0 by the template 'total and deterministic' (their statements: YtabihpjgkkmnjaaTotals.lean).
  GIVEN WITH THE SEED: the statements are not yours to turn. If you find one false, say at which input.
  Laid BY PROGRAM, IN A SANDBOX (cutbox-rows.mjs): the forced cells as the released guide's own fill.sh prints them over the translation ac78ed3be79a5283… (all of the seat's roots in one cut). By AI agents, Wed Nov 11 2026. No macro, syntax, notation, axiom, sorry.
-/
import Derived.Test.YtabihpjgkkmnjaaChecked
import GoSem.Claim
import GoSem.ClaimJoined
import GoSem.ClaimMapViews
import Derived.JoinedTies
import Derived.KernelRfl
namespace Go.Proofs.Ytabihpjgkkmnjaa
/- THE CELL 'sum', in the pinned program and in every row, IS THE sha256 OF THE DUMP (.gsa) THAT YtabihpjgkkmnjaaProg.lean LOADS. Nothing in Lean hashes anything: it is a label: what it is worth is what the hold of that sum in a sandbox is worth. -/
noncomputable def Try.pinned : Pinned := { name := "ytabihpjgkkmnjaa", sum := "ac78ed3be79a5283376c88cd33449ce1c788bde4b8f4df9441c7c764407ef49f", checked := Try.checked }
namespace Rows
def none {H : Type} : Left H := { results := [], args := [] }

/-- 'laws.FnMapDel': WHATEVER THE INPUT: true; the input reads as it did. -/
def fnMapDelSpec : ChangeSpec := { name := "fnMapDel", fn := fun _ => fun
  | [d] => { results := [.lit (.bool true)], args := [d] }
  | _ => none }
def fnMapDelRow : OpenClaim := { program := "ytabihpjgkkmnjaa", sum := "ac78ed3be79a5283376c88cd33449ce1c788bde4b8f4df9441c7c764407ef49f", func := "loop.example/tuggers/laws.FnMapDel", spec := "fnMapDel", inPlace := ["slices.overlaps[loop.example/tuggers/impl.MapEntry]"], unfollowed := true, recurses := true, apart := false }
def FnMapDelSaid : Prop := fnMapDelRow.holds Try.pinned (OpenSpec.ofChange fnMapDelSpec)

/-- ITS FALSE NEIGHBOUR: 'it returns false'. Refute it at one input. -/
def fnMapDelWrong : ChangeSpec := { name := "fnMapDel", fn := fun _ => fun
  | [d] => { results := [.lit (.bool false)], args := [d] }
  | _ => none }
def FnMapDelWrongFalsely : Prop := fnMapDelRow.holds Try.pinned (OpenSpec.ofChange fnMapDelWrong)

/-- 'laws.FnMapGet': WHATEVER THE INPUT: true; the input reads as it did. -/
def fnMapGetSpec : ChangeSpec := { name := "fnMapGet", fn := fun _ => fun
  | [d] => { results := [.lit (.bool true)], args := [d] }
  | _ => none }
def fnMapGetRow : OpenClaim := { program := "ytabihpjgkkmnjaa", sum := "ac78ed3be79a5283376c88cd33449ce1c788bde4b8f4df9441c7c764407ef49f", func := "loop.example/tuggers/laws.FnMapGet", spec := "fnMapGet", apart := false }
def FnMapGetSaid : Prop := fnMapGetRow.holds Try.pinned (OpenSpec.ofChange fnMapGetSpec)

/-- ITS FALSE NEIGHBOUR: 'it returns false'. Refute it at one input. -/
def fnMapGetWrong : ChangeSpec := { name := "fnMapGet", fn := fun _ => fun
  | [d] => { results := [.lit (.bool false)], args := [d] }
  | _ => none }
def FnMapGetWrongFalsely : Prop := fnMapGetRow.holds Try.pinned (OpenSpec.ofChange fnMapGetWrong)

/-- 'laws.FnMapNext': WHATEVER THE INPUT: true; the input reads as it did. -/
def fnMapNextSpec : ChangeSpec := { name := "fnMapNext", fn := fun _ => fun
  | [d] => { results := [.lit (.bool true)], args := [d] }
  | _ => none }
def fnMapNextRow : OpenClaim := { program := "ytabihpjgkkmnjaa", sum := "ac78ed3be79a5283376c88cd33449ce1c788bde4b8f4df9441c7c764407ef49f", func := "loop.example/tuggers/laws.FnMapNext", spec := "fnMapNext", apart := false }
def FnMapNextSaid : Prop := fnMapNextRow.holds Try.pinned (OpenSpec.ofChange fnMapNextSpec)

/-- ITS FALSE NEIGHBOUR: 'it returns false'. Refute it at one input. -/
def fnMapNextWrong : ChangeSpec := { name := "fnMapNext", fn := fun _ => fun
  | [d] => { results := [.lit (.bool false)], args := [d] }
  | _ => none }
def FnMapNextWrongFalsely : Prop := fnMapNextRow.holds Try.pinned (OpenSpec.ofChange fnMapNextWrong)

/-- 'laws.FnMapCount': WHATEVER THE INPUT: true; the input reads as it did. -/
def fnMapCountSpec : ChangeSpec := { name := "fnMapCount", fn := fun _ => fun
  | [d] => { results := [.lit (.bool true)], args := [d] }
  | _ => none }
def fnMapCountRow : OpenClaim := { program := "ytabihpjgkkmnjaa", sum := "ac78ed3be79a5283376c88cd33449ce1c788bde4b8f4df9441c7c764407ef49f", func := "loop.example/tuggers/laws.FnMapCount", spec := "fnMapCount", apart := false }
def FnMapCountSaid : Prop := fnMapCountRow.holds Try.pinned (OpenSpec.ofChange fnMapCountSpec)

/-- ITS FALSE NEIGHBOUR: 'it returns false'. Refute it at one input. -/
def fnMapCountWrong : ChangeSpec := { name := "fnMapCount", fn := fun _ => fun
  | [d] => { results := [.lit (.bool false)], args := [d] }
  | _ => none }
def FnMapCountWrongFalsely : Prop := fnMapCountRow.holds Try.pinned (OpenSpec.ofChange fnMapCountWrong)

/-- 'laws.FnMapOk': WHATEVER THE INPUT: true; the input reads as it did. -/
def fnMapOkSpec : ChangeSpec := { name := "fnMapOk", fn := fun _ => fun
  | [d] => { results := [.lit (.bool true)], args := [d] }
  | _ => none }
def fnMapOkRow : OpenClaim := { program := "ytabihpjgkkmnjaa", sum := "ac78ed3be79a5283376c88cd33449ce1c788bde4b8f4df9441c7c764407ef49f", func := "loop.example/tuggers/laws.FnMapOk", spec := "fnMapOk", unfollowed := true, recurses := true, apart := false }
def FnMapOkSaid : Prop := fnMapOkRow.holds Try.pinned (OpenSpec.ofChange fnMapOkSpec)

/-- ITS FALSE NEIGHBOUR: 'it returns false'. Refute it at one input. -/
def fnMapOkWrong : ChangeSpec := { name := "fnMapOk", fn := fun _ => fun
  | [d] => { results := [.lit (.bool false)], args := [d] }
  | _ => none }
def FnMapOkWrongFalsely : Prop := fnMapOkRow.holds Try.pinned (OpenSpec.ofChange fnMapOkWrong)

/-- 'laws.FnExactMapDel': WHATEVER THE INPUT: true; the input reads as it did. -/
def fnExactMapDelSpec : ChangeSpec := { name := "fnExactMapDel", fn := fun _ => fun
  | [d1, d2] => { results := [.lit (.bool true)], args := [d1, d2] }
  | _ => none }
def fnExactMapDelRow : OpenClaim := { program := "ytabihpjgkkmnjaa", sum := "ac78ed3be79a5283376c88cd33449ce1c788bde4b8f4df9441c7c764407ef49f", func := "loop.example/tuggers/laws.FnExactMapDel", spec := "fnExactMapDel", unfollowed := true, recurses := true, apart := false }
def FnExactMapDelSaid : Prop := fnExactMapDelRow.holds Try.pinned (OpenSpec.ofChange fnExactMapDelSpec)

/-- ITS FALSE NEIGHBOUR: 'it returns false'. Refute it at one input. -/
def fnExactMapDelWrong : ChangeSpec := { name := "fnExactMapDel", fn := fun _ => fun
  | [d1, d2] => { results := [.lit (.bool false)], args := [d1, d2] }
  | _ => none }
def FnExactMapDelWrongFalsely : Prop := fnExactMapDelRow.holds Try.pinned (OpenSpec.ofChange fnExactMapDelWrong)

/-- 'laws.FnMapPut': WHATEVER THE INPUT: true; the input reads as it did. -/
def fnMapPutSpec : ChangeSpec := { name := "fnMapPut", fn := fun _ => fun
  | [d] => { results := [.lit (.bool true)], args := [d] }
  | _ => none }
def fnMapPutRow : OpenClaim := { program := "ytabihpjgkkmnjaa", sum := "ac78ed3be79a5283376c88cd33449ce1c788bde4b8f4df9441c7c764407ef49f", func := "loop.example/tuggers/laws.FnMapPut", spec := "fnMapPut", inPlace := ["slices.overlaps[loop.example/tuggers/impl.MapEntry]"], unfollowed := true, recurses := true, apart := false }
def FnMapPutSaid : Prop := fnMapPutRow.holds Try.pinned (OpenSpec.ofChange fnMapPutSpec)

/-- ITS FALSE NEIGHBOUR: 'it returns false'. Refute it at one input. -/
def fnMapPutWrong : ChangeSpec := { name := "fnMapPut", fn := fun _ => fun
  | [d] => { results := [.lit (.bool false)], args := [d] }
  | _ => none }
def FnMapPutWrongFalsely : Prop := fnMapPutRow.holds Try.pinned (OpenSpec.ofChange fnMapPutWrong)

/-- 'laws.FnExactMapPut': WHATEVER THE INPUT: true; the input reads as it did. -/
def fnExactMapPutSpec : ChangeSpec := { name := "fnExactMapPut", fn := fun _ => fun
  | [d1, d2, d3] => { results := [.lit (.bool true)], args := [d1, d2, d3] }
  | _ => none }
def fnExactMapPutRow : OpenClaim := { program := "ytabihpjgkkmnjaa", sum := "ac78ed3be79a5283376c88cd33449ce1c788bde4b8f4df9441c7c764407ef49f", func := "loop.example/tuggers/laws.FnExactMapPut", spec := "fnExactMapPut", inPlace := ["slices.overlaps[loop.example/tuggers/impl.MapEntry]"], unfollowed := true, recurses := true, apart := false }
def FnExactMapPutSaid : Prop := fnExactMapPutRow.holds Try.pinned (OpenSpec.ofChange fnExactMapPutSpec)

/-- ITS FALSE NEIGHBOUR: 'it returns false'. Refute it at one input. -/
def fnExactMapPutWrong : ChangeSpec := { name := "fnExactMapPut", fn := fun _ => fun
  | [d1, d2, d3] => { results := [.lit (.bool false)], args := [d1, d2, d3] }
  | _ => none }
def FnExactMapPutWrongFalsely : Prop := fnExactMapPutRow.holds Try.pinned (OpenSpec.ofChange fnExactMapPutWrong)

/- THE SECOND FORM. 'bulk': how many values and letters a reading holds, each counted each time it is reached (what is shared counts as often as it is met; a slice's spare places count too). A statement '..UptoSaid' is the law's where the arguments, and the package variables that the reading takes, are together of bulk at most 1048576: NARROWER than '..Said'. Prove '..Said' where nothing that the law and all that it calls make is longer than what came in: it says more and counts as full. Else prove '..UptoSaid'. A law counts once. -/
mutual
def uptoBulk {H : Type} : DataW H → Nat
  | .lit (.string bytes) => bytes.length + 1
  | .lit _ => 1
  | .nil => 1
  | .ptr d => uptoBulk d + 1
  | .slice elems spare => uptoBulkAll elems + uptoBulkAll spare + 1
  | .agg parts => uptoBulkAll parts + 1
  | .iface _ d => uptoBulk d + 1
  | .map entries => uptoBulkEntries entries + 1
  | .held _ => 1
def uptoBulkAll {H : Type} : List (DataW H) → Nat
  | [] => 0
  | d :: r => uptoBulk d + uptoBulkAll r
def uptoBulkEntries {H : Type} : List (Lit × DataW H) → Nat
  | [] => 0
  | x :: r => uptoBulkEntry x + uptoBulkEntries r
def uptoBulkEntry {H : Type} : Lit × DataW H → Nat
  | (.string bytes, d) => bytes.length + uptoBulk d + 1
  | (_, d) => uptoBulk d + 1
 end
def uptoSmall : (H : Type) → List (DataW H) → Bool := fun _ ds => decide (uptoBulkAll ds ≤ 1048576)
def OpenSpec.upto (s : _root_.Go.ChangeSpec) : _root_.Go.OpenSpec := { _root_.Go.OpenSpec.ofChange s with cond := some uptoSmall }

/-- 'laws.FnMapDel', WHERE WHAT IT READS IS OF BULK AT MOST 1048576: true; the input reads as it did. -/
def fnMapDelUptoRow : OpenClaim := { program := "ytabihpjgkkmnjaa", sum := "ac78ed3be79a5283376c88cd33449ce1c788bde4b8f4df9441c7c764407ef49f", func := "loop.example/tuggers/laws.FnMapDel", spec := "fnMapDel", inPlace := ["slices.overlaps[loop.example/tuggers/impl.MapEntry]"], unfollowed := true, recurses := true, apart := false, narrowed := true }
def FnMapDelUptoSaid : Prop := fnMapDelUptoRow.holds Try.pinned (OpenSpec.upto fnMapDelSpec)

/-- 'laws.FnMapGet', WHERE WHAT IT READS IS OF BULK AT MOST 1048576: true; the input reads as it did. -/
def fnMapGetUptoRow : OpenClaim := { program := "ytabihpjgkkmnjaa", sum := "ac78ed3be79a5283376c88cd33449ce1c788bde4b8f4df9441c7c764407ef49f", func := "loop.example/tuggers/laws.FnMapGet", spec := "fnMapGet", apart := false, narrowed := true }
def FnMapGetUptoSaid : Prop := fnMapGetUptoRow.holds Try.pinned (OpenSpec.upto fnMapGetSpec)

/-- 'laws.FnMapNext', WHERE WHAT IT READS IS OF BULK AT MOST 1048576: true; the input reads as it did. -/
def fnMapNextUptoRow : OpenClaim := { program := "ytabihpjgkkmnjaa", sum := "ac78ed3be79a5283376c88cd33449ce1c788bde4b8f4df9441c7c764407ef49f", func := "loop.example/tuggers/laws.FnMapNext", spec := "fnMapNext", apart := false, narrowed := true }
def FnMapNextUptoSaid : Prop := fnMapNextUptoRow.holds Try.pinned (OpenSpec.upto fnMapNextSpec)

/-- 'laws.FnMapCount', WHERE WHAT IT READS IS OF BULK AT MOST 1048576: true; the input reads as it did. -/
def fnMapCountUptoRow : OpenClaim := { program := "ytabihpjgkkmnjaa", sum := "ac78ed3be79a5283376c88cd33449ce1c788bde4b8f4df9441c7c764407ef49f", func := "loop.example/tuggers/laws.FnMapCount", spec := "fnMapCount", apart := false, narrowed := true }
def FnMapCountUptoSaid : Prop := fnMapCountUptoRow.holds Try.pinned (OpenSpec.upto fnMapCountSpec)

/-- 'laws.FnMapOk', WHERE WHAT IT READS IS OF BULK AT MOST 1048576: true; the input reads as it did. -/
def fnMapOkUptoRow : OpenClaim := { program := "ytabihpjgkkmnjaa", sum := "ac78ed3be79a5283376c88cd33449ce1c788bde4b8f4df9441c7c764407ef49f", func := "loop.example/tuggers/laws.FnMapOk", spec := "fnMapOk", unfollowed := true, recurses := true, apart := false, narrowed := true }
def FnMapOkUptoSaid : Prop := fnMapOkUptoRow.holds Try.pinned (OpenSpec.upto fnMapOkSpec)

/-- 'laws.FnExactMapDel', WHERE WHAT IT READS IS OF BULK AT MOST 1048576: true; the input reads as it did. -/
def fnExactMapDelUptoRow : OpenClaim := { program := "ytabihpjgkkmnjaa", sum := "ac78ed3be79a5283376c88cd33449ce1c788bde4b8f4df9441c7c764407ef49f", func := "loop.example/tuggers/laws.FnExactMapDel", spec := "fnExactMapDel", unfollowed := true, recurses := true, apart := false, narrowed := true }
def FnExactMapDelUptoSaid : Prop := fnExactMapDelUptoRow.holds Try.pinned (OpenSpec.upto fnExactMapDelSpec)

/-- 'laws.FnMapPut', WHERE WHAT IT READS IS OF BULK AT MOST 1048576: true; the input reads as it did. -/
def fnMapPutUptoRow : OpenClaim := { program := "ytabihpjgkkmnjaa", sum := "ac78ed3be79a5283376c88cd33449ce1c788bde4b8f4df9441c7c764407ef49f", func := "loop.example/tuggers/laws.FnMapPut", spec := "fnMapPut", inPlace := ["slices.overlaps[loop.example/tuggers/impl.MapEntry]"], unfollowed := true, recurses := true, apart := false, narrowed := true }
def FnMapPutUptoSaid : Prop := fnMapPutUptoRow.holds Try.pinned (OpenSpec.upto fnMapPutSpec)

/-- 'laws.FnExactMapPut', WHERE WHAT IT READS IS OF BULK AT MOST 1048576: true; the input reads as it did. -/
def fnExactMapPutUptoRow : OpenClaim := { program := "ytabihpjgkkmnjaa", sum := "ac78ed3be79a5283376c88cd33449ce1c788bde4b8f4df9441c7c764407ef49f", func := "loop.example/tuggers/laws.FnExactMapPut", spec := "fnExactMapPut", inPlace := ["slices.overlaps[loop.example/tuggers/impl.MapEntry]"], unfollowed := true, recurses := true, apart := false, narrowed := true }
def FnExactMapPutUptoSaid : Prop := fnExactMapPutUptoRow.holds Try.pinned (OpenSpec.upto fnExactMapPutSpec)

end Rows
end Go.Proofs.Ytabihpjgkkmnjaa
