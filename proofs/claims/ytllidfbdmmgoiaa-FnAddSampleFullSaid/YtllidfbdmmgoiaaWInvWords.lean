/- Words of this session's contracts (theorems on heaps, reads and walks), cut out of the words that the kit's print writes for this seat: what no text of the seat mentions is left out. No condition beyond each statement's own. -/
import Derived.Test.YtllidfbdmmgoiaaWInv
import Derived.Test.YtllidfbdmmgoiaaWFootNe
namespace Go.Proofs.YtllidfbdmmgoiaaW.PrintWords
open Go.RowKit
end Go.Proofs.YtllidfbdmmgoiaaW.PrintWords
namespace Go.Proofs.YtllidfbdmmgoiaaW.PrintLast
section
variable {ops : Array Oper} {a : Act} {o og : Oper} {g : Nat} {t : Tmp} {u : Bool}
end
end Go.Proofs.YtllidfbdmmgoiaaW.PrintLast
