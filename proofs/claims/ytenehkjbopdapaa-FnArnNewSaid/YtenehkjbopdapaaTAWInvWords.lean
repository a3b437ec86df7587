/- What this claim's texts name, out of the words that the kit's print laid (and of this seat's own texts). Conditions: as stated. -/
-- PRINTED BY print.sh 35421559b90ae4d0a3588c463048766b98c2df88dd9212a6774a882060cdf62d: not written by this session
import Derived.Test.YtenehkjbopdapaaTAWInv
import Derived.Test.YtenehkjbopdapaaTAWFootNe
namespace Go.Proofs.YtenehkjbopdapaaW.PrintWords
open Go.RowKit
end Go.Proofs.YtenehkjbopdapaaW.PrintWords
namespace Go.Proofs.YtenehkjbopdapaaW.PrintLast
section
variable {ops : Array Oper} {a : Act} {o og : Oper} {g : Nat} {t : Tmp} {u : Bool}
end
end Go.Proofs.YtenehkjbopdapaaW.PrintLast
