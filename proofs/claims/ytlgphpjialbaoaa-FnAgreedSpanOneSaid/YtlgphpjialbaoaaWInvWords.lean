/- Words of this session's contracts (theorems on heaps, reads and walks), cut out of the words that the kit's print writes for this seat: what no text of the seat mentions is left out. No condition beyond each statement's own. -/
import Derived.Test.YtlgphpjialbaoaaWInv
import Derived.Test.YtlgphpjialbaoaaWFootNe
namespace Go.Proofs.YtlgphpjialbaoaaW.PrintWords
open Go.RowKit
end Go.Proofs.YtlgphpjialbaoaaW.PrintWords
namespace Go.Proofs.YtlgphpjialbaoaaW.PrintLast
section
variable {ops : Array Oper} {a : Act} {o og : Oper} {g : Nat} {t : Tmp} {u : Bool}
end
end Go.Proofs.YtlgphpjialbaoaaW.PrintLast
