/- Words of this session's contracts (theorems on heaps, reads and walks), cut out of the words that the kit's print writes for this seat: what no text of the seat mentions is left out. No condition beyond each statement's own. -/
import Derived.Test.YtkmklifflghojaaWInv
import Derived.Test.YtkmklifflghojaaWFootNe
namespace Go.Proofs.YtkmklifflghojaaW.PrintWords
open Go.RowKit
end Go.Proofs.YtkmklifflghojaaW.PrintWords
namespace Go.Proofs.YtkmklifflghojaaW.PrintLast
section
variable {ops : Array Oper} {a : Act} {o og : Oper} {g : Nat} {t : Tmp} {u : Bool}
end
end Go.Proofs.YtkmklifflghojaaW.PrintLast
