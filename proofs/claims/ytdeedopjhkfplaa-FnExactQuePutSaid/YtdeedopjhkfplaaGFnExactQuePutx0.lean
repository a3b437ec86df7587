/- The functions that the law reaches, as plain Lean functions, and that the machine comes to their answers: laid by a program of this session. Conditions: none. -/
import Derived.Test.YtdeedopjhkfplaaProg
import Derived.Below
import Derived.Deep.Draws
import Derived.Deep.AppendLies
import Derived.Maps.AppendAt
import Derived.OwnWalk
import Derived.Laws.BytesArg
import Derived.Laws.MakeOwn
import Derived.Laws.OwnMore
import Derived.Deep.OwnRows
import Derived.Tactics
import Derived.Lib.ConvBytes
import Derived.Laws.Slices
import Derived.WalkKit
import Derived.KernelRfl
import Derived.RowKit3
import Derived.Deep.LoopGhost
import Derived.Deep.QuietTactic
import Derived.BigQuiet
import Derived.WideLaws
import Derived.Deep.DeepCutAuto
import Derived.Deep.CutBlock
import Derived.Deep.RegionHeld3
import Derived.Laws.Rows
import Derived.Lib.AppendStr
import Derived.ArgAppend
import Derived.Laws.IdiomCopy
import Derived.OrdersHeld
import Derived.Laws.BitsLemmas
import Derived.RowKit
import Derived.Shelf.Abstract
import Derived.Test.YtdeedopjhkfplaaWWords
import Derived.Test.YtdeedopjhkfplaaWLast
import Derived.Test.YtdeedopjhkfplaaWTab
import Derived.Test.YtdeedopjhkfplaaWFour
import Derived.Test.YtdeedopjhkfplaaWQPut
import Derived.Test.YtdeedopjhkfplaaWApart
import Derived.Test.YtdeedopjhkfplaaWArr
import Derived.Test.YtdeedopjhkfplaaWZeros
import Derived.Test.YtdeedopjhkfplaaWFoot
import Derived.Test.YtdeedopjhkfplaaWKept
import Derived.Test.YtdeedopjhkfplaaWShare
import Derived.Test.YtdeedopjhkfplaaWN
import Derived.Test.YtdeedopjhkfplaaWFootNe
import Derived.Test.YtdeedopjhkfplaaWAt
import Derived.Test.YtdeedopjhkfplaaWEqStruct
import Derived.Test.YtdeedopjhkfplaaWRepsOne
import Derived.Test.YtdeedopjhkfplaaWInv
import Derived.Test.YtdeedopjhkfplaaWInvWords
import Derived.Test.YtdeedopjhkfplaaWGuard
import Derived.Test.YtdeedopjhkfplaaWNEv
import Derived.Test.YtdeedopjhkfplaaWMore
namespace Go.Proofs.Ytdeedopjhkfplaa.GFnExactQuePut
open Go.RowKit Go.Proofs.YtdeedopjhkfplaaW.PrintWords Go.Proofs.YtdeedopjhkfplaaW.PrintLast Go.Proofs.YtdeedopjhkfplaaW.PrintMore
attribute [local go_sem] max2_int min2_int max_two min_two max_three min_three max_four min_four   -- for this text's walks alone
set_option linter.unusedVariables false
set_option linter.unusedSimpArgs false

class IsT (r : Bool) : Prop where eq : r = true
instance isT : IsT true := ⟨rfl⟩


def errW : Option Int → Value
  | none => .nilIface
  | some c => .iface 0 (.int .i64 c)
theorem errW_none : errW none = .nilIface := rfl
theorem errW_some (c : Int) : errW (some c) = .iface 0 (.int .i64 c) := rfl

theorem info3 : (Try.prog.info? 3).map (fun i => (i.zero, i.size, i.bytes)) = some (some (.int .i64 0), 1, 8) := by kernel_rfl
-- the values' own types

end Go.Proofs.Ytdeedopjhkfplaa.GFnExactQuePut
