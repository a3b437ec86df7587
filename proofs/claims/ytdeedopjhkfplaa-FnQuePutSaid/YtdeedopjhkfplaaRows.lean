/-
  No cell of these rows narrows 'for every input' (looked for: loops, veiled, ifaces, maps, wideKeys, modest, calm, conditions, laid).
  DERIVED. THE GIVEN ROWS OF THIS SEAT. 11 by the template 'for every input the law returns true; each argument reads behind the call as it read before'; 0 by the template 'total and deterministic' (their statements: YtdeedopjhkfplaaTotals.lean).
  GIVEN WITH THE SEED: the statements are not yours to turn. If you find one false, say at which input.
  Laid BY PROGRAM, IN A SANDBOX (cutbox-rows.mjs): the forced cells as the released guide's own fill.sh prints them over the translation b21396b01b0080b8… (all of the seat's roots in one cut). By AI agents, Wed Nov 11 2026. No macro, syntax, notation, axiom, sorry.
-/
import Derived.Test.YtdeedopjhkfplaaChecked
import GoSem.Claim
import GoSem.ClaimJoined
import GoSem.ClaimMapViews
import Derived.JoinedTies
import Derived.KernelRfl
namespace Go.Proofs.Ytdeedopjhkfplaa
/- THE CELL 'sum', in the pinned program and in every row, IS THE sha256 OF THE DUMP (.gsa) THAT YtdeedopjhkfplaaProg.lean LOADS. Nothing in Lean hashes anything: it is a label: what it is worth is what the hold of that sum in a sandbox is worth. -/
noncomputable def Try.pinned : Pinned := { name := "ytdeedopjhkfplaa", sum := "b21396b01b0080b89908e1e0b6fb5a3ce0216c53a5f1fe5cf32d796d4aa7d651", checked := Try.checked }
namespace Rows
def none {H : Type} : Left H := { results := [], args := [] }

/-- 'laws.FnExactListOk': WHATEVER THE INPUT: true; the input reads as it did. -/
def fnExactListOkSpec : ChangeSpec := { name := "fnExactListOk", fn := fun _ => fun
  | [d] => { results := [.lit (.bool true)], args := [d] }
  | _ => none }
def fnExactListOkRow : OpenClaim := { program := "ytdeedopjhkfplaa", sum := "b21396b01b0080b89908e1e0b6fb5a3ce0216c53a5f1fe5cf32d796d4aa7d651", func := "loop.example/tuggers/laws.FnExactListOk", spec := "fnExactListOk", unfollowed := true, recurses := true, apart := false }
def FnExactListOkSaid : Prop := fnExactListOkRow.holds Try.pinned (OpenSpec.ofChange fnExactListOkSpec)

/-- ITS FALSE NEIGHBOUR: 'it returns false'. Refute it at one input. -/
def fnExactListOkWrong : ChangeSpec := { name := "fnExactListOk", fn := fun _ => fun
  | [d] => { results := [.lit (.bool false)], args := [d] }
  | _ => none }
def FnExactListOkWrongFalsely : Prop := fnExactListOkRow.holds Try.pinned (OpenSpec.ofChange fnExactListOkWrong)

/-- 'laws.FnListOk': WHATEVER THE INPUT: true; the input reads as it did. -/
def fnListOkSpec : ChangeSpec := { name := "fnListOk", fn := fun _ => fun
  | [d] => { results := [.lit (.bool true)], args := [d] }
  | _ => none }
def fnListOkRow : OpenClaim := { program := "ytdeedopjhkfplaa", sum := "b21396b01b0080b89908e1e0b6fb5a3ce0216c53a5f1fe5cf32d796d4aa7d651", func := "loop.example/tuggers/laws.FnListOk", spec := "fnListOk", unfollowed := true, recurses := true, apart := false }
def FnListOkSaid : Prop := fnListOkRow.holds Try.pinned (OpenSpec.ofChange fnListOkSpec)

/-- ITS FALSE NEIGHBOUR: 'it returns false'. Refute it at one input. -/
def fnListOkWrong : ChangeSpec := { name := "fnListOk", fn := fun _ => fun
  | [d] => { results := [.lit (.bool false)], args := [d] }
  | _ => none }
def FnListOkWrongFalsely : Prop := fnListOkRow.holds Try.pinned (OpenSpec.ofChange fnListOkWrong)

/-- 'laws.FnWrdMake': WHATEVER THE INPUT: true; the input reads as it did. -/
def fnWrdMakeSpec : ChangeSpec := { name := "fnWrdMake", fn := fun _ => fun
  | [d1, d2] => { results := [.lit (.bool true)], args := [d1, d2] }
  | _ => none }
def fnWrdMakeRow : OpenClaim := { program := "ytdeedopjhkfplaa", sum := "b21396b01b0080b89908e1e0b6fb5a3ce0216c53a5f1fe5cf32d796d4aa7d651", func := "loop.example/tuggers/laws.FnWrdMake", spec := "fnWrdMake", apart := false }
def FnWrdMakeSaid : Prop := fnWrdMakeRow.holds Try.pinned (OpenSpec.ofChange fnWrdMakeSpec)

/-- ITS FALSE NEIGHBOUR: 'it returns false'. Refute it at one input. -/
def fnWrdMakeWrong : ChangeSpec := { name := "fnWrdMake", fn := fun _ => fun
  | [d1, d2] => { results := [.lit (.bool false)], args := [d1, d2] }
  | _ => none }
def FnWrdMakeWrongFalsely : Prop := fnWrdMakeRow.holds Try.pinned (OpenSpec.ofChange fnWrdMakeWrong)

/-- 'laws.FnOpOk': WHATEVER THE INPUT: true; the input reads as it did. -/
def fnOpOkSpec : ChangeSpec := { name := "fnOpOk", fn := fun _ => fun
  | [d] => { results := [.lit (.bool true)], args := [d] }
  | _ => none }
def fnOpOkRow : OpenClaim := { program := "ytdeedopjhkfplaa", sum := "b21396b01b0080b89908e1e0b6fb5a3ce0216c53a5f1fe5cf32d796d4aa7d651", func := "loop.example/tuggers/laws.FnOpOk", spec := "fnOpOk", apart := false }
def FnOpOkSaid : Prop := fnOpOkRow.holds Try.pinned (OpenSpec.ofChange fnOpOkSpec)

/-- ITS FALSE NEIGHBOUR: 'it returns false'. Refute it at one input. -/
def fnOpOkWrong : ChangeSpec := { name := "fnOpOk", fn := fun _ => fun
  | [d] => { results := [.lit (.bool false)], args := [d] }
  | _ => none }
def FnOpOkWrongFalsely : Prop := fnOpOkRow.holds Try.pinned (OpenSpec.ofChange fnOpOkWrong)

/-- 'laws.FnExactListTake': WHATEVER THE INPUT: true; the input reads as it did. -/
def fnExactListTakeSpec : ChangeSpec := { name := "fnExactListTake", fn := fun _ => fun
  | [d] => { results := [.lit (.bool true)], args := [d] }
  | _ => none }
def fnExactListTakeRow : OpenClaim := { program := "ytdeedopjhkfplaa", sum := "b21396b01b0080b89908e1e0b6fb5a3ce0216c53a5f1fe5cf32d796d4aa7d651", func := "loop.example/tuggers/laws.FnExactListTake", spec := "fnExactListTake", unfollowed := true, recurses := true, apart := false }
def FnExactListTakeSaid : Prop := fnExactListTakeRow.holds Try.pinned (OpenSpec.ofChange fnExactListTakeSpec)

/-- ITS FALSE NEIGHBOUR: 'it returns false'. Refute it at one input. -/
def fnExactListTakeWrong : ChangeSpec := { name := "fnExactListTake", fn := fun _ => fun
  | [d] => { results := [.lit (.bool false)], args := [d] }
  | _ => none }
def FnExactListTakeWrongFalsely : Prop := fnExactListTakeRow.holds Try.pinned (OpenSpec.ofChange fnExactListTakeWrong)

/-- 'laws.FnListFirst': WHATEVER THE INPUT: true; the input reads as it did. -/
def fnListFirstSpec : ChangeSpec := { name := "fnListFirst", fn := fun _ => fun
  | [d] => { results := [.lit (.bool true)], args := [d] }
  | _ => none }
def fnListFirstRow : OpenClaim := { program := "ytdeedopjhkfplaa", sum := "b21396b01b0080b89908e1e0b6fb5a3ce0216c53a5f1fe5cf32d796d4aa7d651", func := "loop.example/tuggers/laws.FnListFirst", spec := "fnListFirst", unfollowed := true, recurses := true, apart := false }
def FnListFirstSaid : Prop := fnListFirstRow.holds Try.pinned (OpenSpec.ofChange fnListFirstSpec)

/-- ITS FALSE NEIGHBOUR: 'it returns false'. Refute it at one input. -/
def fnListFirstWrong : ChangeSpec := { name := "fnListFirst", fn := fun _ => fun
  | [d] => { results := [.lit (.bool false)], args := [d] }
  | _ => none }
def FnListFirstWrongFalsely : Prop := fnListFirstRow.holds Try.pinned (OpenSpec.ofChange fnListFirstWrong)

/-- 'laws.FnExactQuePut': WHATEVER THE INPUT: true; the input reads as it did. -/
def fnExactQuePutSpec : ChangeSpec := { name := "fnExactQuePut", fn := fun _ => fun
  | [d1, d2] => { results := [.lit (.bool true)], args := [d1, d2] }
  | _ => none }
def fnExactQuePutRow : OpenClaim := { program := "ytdeedopjhkfplaa", sum := "b21396b01b0080b89908e1e0b6fb5a3ce0216c53a5f1fe5cf32d796d4aa7d651", func := "loop.example/tuggers/laws.FnExactQuePut", spec := "fnExactQuePut", inPlace := ["slices.overlaps[int]"], unfollowed := true, recurses := true, apart := false }
def FnExactQuePutSaid : Prop := fnExactQuePutRow.holds Try.pinned (OpenSpec.ofChange fnExactQuePutSpec)

/-- ITS FALSE NEIGHBOUR: 'it returns false'. Refute it at one input. -/
def fnExactQuePutWrong : ChangeSpec := { name := "fnExactQuePut", fn := fun _ => fun
  | [d1, d2] => { results := [.lit (.bool false)], args := [d1, d2] }
  | _ => none }
def FnExactQuePutWrongFalsely : Prop := fnExactQuePutRow.holds Try.pinned (OpenSpec.ofChange fnExactQuePutWrong)

/-- 'laws.FnExactStkPush': WHATEVER THE INPUT: true; the input reads as it did. -/
def fnExactStkPushSpec : ChangeSpec := { name := "fnExactStkPush", fn := fun _ => fun
  | [d1, d2] => { results := [.lit (.bool true)], args := [d1, d2] }
  | _ => none }
def fnExactStkPushRow : OpenClaim := { program := "ytdeedopjhkfplaa", sum := "b21396b01b0080b89908e1e0b6fb5a3ce0216c53a5f1fe5cf32d796d4aa7d651", func := "loop.example/tuggers/laws.FnExactStkPush", spec := "fnExactStkPush", inPlace := ["slices.overlaps[int]"], unfollowed := true, recurses := true, apart := false }
def FnExactStkPushSaid : Prop := fnExactStkPushRow.holds Try.pinned (OpenSpec.ofChange fnExactStkPushSpec)

/-- ITS FALSE NEIGHBOUR: 'it returns false'. Refute it at one input. -/
def fnExactStkPushWrong : ChangeSpec := { name := "fnExactStkPush", fn := fun _ => fun
  | [d1, d2] => { results := [.lit (.bool false)], args := [d1, d2] }
  | _ => none }
def FnExactStkPushWrongFalsely : Prop := fnExactStkPushRow.holds Try.pinned (OpenSpec.ofChange fnExactStkPushWrong)

/-- 'laws.FnListTake': WHATEVER THE INPUT: true; the input reads as it did. -/
def fnListTakeSpec : ChangeSpec := { name := "fnListTake", fn := fun _ => fun
  | [d] => { results := [.lit (.bool true)], args := [d] }
  | _ => none }
def fnListTakeRow : OpenClaim := { program := "ytdeedopjhkfplaa", sum := "b21396b01b0080b89908e1e0b6fb5a3ce0216c53a5f1fe5cf32d796d4aa7d651", func := "loop.example/tuggers/laws.FnListTake", spec := "fnListTake", inPlace := ["slices.overlaps[int]"], unfollowed := true, recurses := true, apart := false }
def FnListTakeSaid : Prop := fnListTakeRow.holds Try.pinned (OpenSpec.ofChange fnListTakeSpec)

/-- ITS FALSE NEIGHBOUR: 'it returns false'. Refute it at one input. -/
def fnListTakeWrong : ChangeSpec := { name := "fnListTake", fn := fun _ => fun
  | [d] => { results := [.lit (.bool false)], args := [d] }
  | _ => none }
def FnListTakeWrongFalsely : Prop := fnListTakeRow.holds Try.pinned (OpenSpec.ofChange fnListTakeWrong)

/-- 'laws.FnStkPush': WHATEVER THE INPUT: true; the input reads as it did. -/
def fnStkPushSpec : ChangeSpec := { name := "fnStkPush", fn := fun _ => fun
  | [d] => { results := [.lit (.bool true)], args := [d] }
  | _ => none }
def fnStkPushRow : OpenClaim := { program := "ytdeedopjhkfplaa", sum := "b21396b01b0080b89908e1e0b6fb5a3ce0216c53a5f1fe5cf32d796d4aa7d651", func := "loop.example/tuggers/laws.FnStkPush", spec := "fnStkPush", inPlace := ["slices.overlaps[int]"], unfollowed := true, recurses := true, apart := false }
def FnStkPushSaid : Prop := fnStkPushRow.holds Try.pinned (OpenSpec.ofChange fnStkPushSpec)

/-- ITS FALSE NEIGHBOUR: 'it returns false'. Refute it at one input. -/
def fnStkPushWrong : ChangeSpec := { name := "fnStkPush", fn := fun _ => fun
  | [d] => { results := [.lit (.bool false)], args := [d] }
  | _ => none }
def FnStkPushWrongFalsely : Prop := fnStkPushRow.holds Try.pinned (OpenSpec.ofChange fnStkPushWrong)

/-- 'laws.FnQuePut': WHATEVER THE INPUT: true; the input reads as it did. -/
def fnQuePutSpec : ChangeSpec := { name := "fnQuePut", fn := fun _ => fun
  | [d] => { results := [.lit (.bool true)], args := [d] }
  | _ => none }
def fnQuePutRow : OpenClaim := { program := "ytdeedopjhkfplaa", sum := "b21396b01b0080b89908e1e0b6fb5a3ce0216c53a5f1fe5cf32d796d4aa7d651", func := "loop.example/tuggers/laws.FnQuePut", spec := "fnQuePut", inPlace := ["slices.overlaps[int]"], unfollowed := true, recurses := true, apart := false }
def FnQuePutSaid : Prop := fnQuePutRow.holds Try.pinned (OpenSpec.ofChange fnQuePutSpec)

/-- ITS FALSE NEIGHBOUR: 'it returns false'. Refute it at one input. -/
def fnQuePutWrong : ChangeSpec := { name := "fnQuePut", fn := fun _ => fun
  | [d] => { results := [.lit (.bool false)], args := [d] }
  | _ => none }
def FnQuePutWrongFalsely : Prop := fnQuePutRow.holds Try.pinned (OpenSpec.ofChange fnQuePutWrong)

/- THE SECOND FORM. 'bulk': how many values and letters a reading holds, each counted each time it is reached (what is shared counts as often as it is met; a slice's spare places count too). A statement '..UptoSaid' is the law's where the arguments, and the package variables that the reading takes, are together of bulk at most 1048576: NARROWER than '..Said'. Prove '..Said' where nothing that the law and all that it calls make is longer than what came in: it says more and counts as full. Else prove '..UptoSaid'. A law counts once. -/
mutual
def uptoBulk {H : Type} : DataW H → Nat
  | .lit (.string bytes) => bytes.length + 1
  | .lit _ => 1
  | .nil => 1
  | .ptr d => uptoBulk d + 1
  | .slice elems spare => uptoBulkAll elems + uptoBulkAll spare + 1
  | .agg parts => uptoBulkAll parts + 1
  | .iface _ d => uptoBulk d + 1
  | .map entries => uptoBulkEntries entries + 1
  | .held _ => 1
def uptoBulkAll {H : Type} : List (DataW H) → Nat
  | [] => 0
  | d :: r => uptoBulk d + uptoBulkAll r
def uptoBulkEntries {H : Type} : List (Lit × DataW H) → Nat
  | [] => 0
  | x :: r => uptoBulkEntry x + uptoBulkEntries r
def uptoBulkEntry {H : Type} : Lit × DataW H → Nat
  | (.string bytes, d) => bytes.length + uptoBulk d + 1
  | (_, d) => uptoBulk d + 1
 end
def uptoSmall : (H : Type) → List (DataW H) → Bool := fun _ ds => decide (uptoBulkAll ds ≤ 1048576)
def OpenSpec.upto (s : _root_.Go.ChangeSpec) : _root_.Go.OpenSpec := { _root_.Go.OpenSpec.ofChange s with cond := some uptoSmall }

/-- 'laws.FnExactListOk', WHERE WHAT IT READS IS OF BULK AT MOST 1048576: true; the input reads as it did. -/
def fnExactListOkUptoRow : OpenClaim := { program := "ytdeedopjhkfplaa", sum := "b21396b01b0080b89908e1e0b6fb5a3ce0216c53a5f1fe5cf32d796d4aa7d651", func := "loop.example/tuggers/laws.FnExactListOk", spec := "fnExactListOk", unfollowed := true, recurses := true, apart := false, narrowed := true }
def FnExactListOkUptoSaid : Prop := fnExactListOkUptoRow.holds Try.pinned (OpenSpec.upto fnExactListOkSpec)

/-- 'laws.FnListOk', WHERE WHAT IT READS IS OF BULK AT MOST 1048576: true; the input reads as it did. -/
def fnListOkUptoRow : OpenClaim := { program := "ytdeedopjhkfplaa", sum := "b21396b01b0080b89908e1e0b6fb5a3ce0216c53a5f1fe5cf32d796d4aa7d651", func := "loop.example/tuggers/laws.FnListOk", spec := "fnListOk", unfollowed := true, recurses := true, apart := false, narrowed := true }
def FnListOkUptoSaid : Prop := fnListOkUptoRow.holds Try.pinned (OpenSpec.upto fnListOkSpec)

/-- 'laws.FnWrdMake', WHERE WHAT IT READS IS OF BULK AT MOST 1048576: true; the input reads as it did. -/
def fnWrdMakeUptoRow : OpenClaim := { program := "ytdeedopjhkfplaa", sum := "b21396b01b0080b89908e1e0b6fb5a3ce0216c53a5f1fe5cf32d796d4aa7d651", func := "loop.example/tuggers/laws.FnWrdMake", spec := "fnWrdMake", apart := false, narrowed := true }
def FnWrdMakeUptoSaid : Prop := fnWrdMakeUptoRow.holds Try.pinned (OpenSpec.upto fnWrdMakeSpec)

/-- 'laws.FnOpOk', WHERE WHAT IT READS IS OF BULK AT MOST 1048576: true; the input reads as it did. -/
def fnOpOkUptoRow : OpenClaim := { program := "ytdeedopjhkfplaa", sum := "b21396b01b0080b89908e1e0b6fb5a3ce0216c53a5f1fe5cf32d796d4aa7d651", func := "loop.example/tuggers/laws.FnOpOk", spec := "fnOpOk", apart := false, narrowed := true }
def FnOpOkUptoSaid : Prop := fnOpOkUptoRow.holds Try.pinned (OpenSpec.upto fnOpOkSpec)

/-- 'laws.FnExactListTake', WHERE WHAT IT READS IS OF BULK AT MOST 1048576: true; the input reads as it did. -/
def fnExactListTakeUptoRow : OpenClaim := { program := "ytdeedopjhkfplaa", sum := "b21396b01b0080b89908e1e0b6fb5a3ce0216c53a5f1fe5cf32d796d4aa7d651", func := "loop.example/tuggers/laws.FnExactListTake", spec := "fnExactListTake", unfollowed := true, recurses := true, apart := false, narrowed := true }
def FnExactListTakeUptoSaid : Prop := fnExactListTakeUptoRow.holds Try.pinned (OpenSpec.upto fnExactListTakeSpec)

/-- 'laws.FnListFirst', WHERE WHAT IT READS IS OF BULK AT MOST 1048576: true; the input reads as it did. -/
def fnListFirstUptoRow : OpenClaim := { program := "ytdeedopjhkfplaa", sum := "b21396b01b0080b89908e1e0b6fb5a3ce0216c53a5f1fe5cf32d796d4aa7d651", func := "loop.example/tuggers/laws.FnListFirst", spec := "fnListFirst", unfollowed := true, recurses := true, apart := false, narrowed := true }
def FnListFirstUptoSaid : Prop := fnListFirstUptoRow.holds Try.pinned (OpenSpec.upto fnListFirstSpec)

/-- 'laws.FnExactQuePut', WHERE WHAT IT READS IS OF BULK AT MOST 1048576: true; the input reads as it did. -/
def fnExactQuePutUptoRow : OpenClaim := { program := "ytdeedopjhkfplaa", sum := "b21396b01b0080b89908e1e0b6fb5a3ce0216c53a5f1fe5cf32d796d4aa7d651", func := "loop.example/tuggers/laws.FnExactQuePut", spec := "fnExactQuePut", inPlace := ["slices.overlaps[int]"], unfollowed := true, recurses := true, apart := false, narrowed := true }
def FnExactQuePutUptoSaid : Prop := fnExactQuePutUptoRow.holds Try.pinned (OpenSpec.upto fnExactQuePutSpec)

/-- 'laws.FnExactStkPush', WHERE WHAT IT READS IS OF BULK AT MOST 1048576: true; the input reads as it did. -/
def fnExactStkPushUptoRow : OpenClaim := { program := "ytdeedopjhkfplaa", sum := "b21396b01b0080b89908e1e0b6fb5a3ce0216c53a5f1fe5cf32d796d4aa7d651", func := "loop.example/tuggers/laws.FnExactStkPush", spec := "fnExactStkPush", inPlace := ["slices.overlaps[int]"], unfollowed := true, recurses := true, apart := false, narrowed := true }
def FnExactStkPushUptoSaid : Prop := fnExactStkPushUptoRow.holds Try.pinned (OpenSpec.upto fnExactStkPushSpec)

/-- 'laws.FnListTake', WHERE WHAT IT READS IS OF BULK AT MOST 1048576: true; the input reads as it did. -/
def fnListTakeUptoRow : OpenClaim := { program := "ytdeedopjhkfplaa", sum := "b21396b01b0080b89908e1e0b6fb5a3ce0216c53a5f1fe5cf32d796d4aa7d651", func := "loop.example/tuggers/laws.FnListTake", spec := "fnListTake", inPlace := ["slices.overlaps[int]"], unfollowed := true, recurses := true, apart := false, narrowed := true }
def FnListTakeUptoSaid : Prop := fnListTakeUptoRow.holds Try.pinned (OpenSpec.upto fnListTakeSpec)

/-- 'laws.FnStkPush', WHERE WHAT IT READS IS OF BULK AT MOST 1048576: true; the input reads as it did. -/
def fnStkPushUptoRow : OpenClaim := { program := "ytdeedopjhkfplaa", sum := "b21396b01b0080b89908e1e0b6fb5a3ce0216c53a5f1fe5cf32d796d4aa7d651", func := "loop.example/tuggers/laws.FnStkPush", spec := "fnStkPush", inPlace := ["slices.overlaps[int]"], unfollowed := true, recurses := true, apart := false, narrowed := true }
def FnStkPushUptoSaid : Prop := fnStkPushUptoRow.holds Try.pinned (OpenSpec.upto fnStkPushSpec)

/-- 'laws.FnQuePut', WHERE WHAT IT READS IS OF BULK AT MOST 1048576: true; the input reads as it did. -/
def fnQuePutUptoRow : OpenClaim := { program := "ytdeedopjhkfplaa", sum := "b21396b01b0080b89908e1e0b6fb5a3ce0216c53a5f1fe5cf32d796d4aa7d651", func := "loop.example/tuggers/laws.FnQuePut", spec := "fnQuePut", inPlace := ["slices.overlaps[int]"], unfollowed := true, recurses := true, apart := false, narrowed := true }
def FnQuePutUptoSaid : Prop := fnQuePutUptoRow.holds Try.pinned (OpenSpec.upto fnQuePutSpec)

end Rows
end Go.Proofs.Ytdeedopjhkfplaa
