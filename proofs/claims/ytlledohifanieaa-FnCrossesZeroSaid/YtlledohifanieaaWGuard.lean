/- Words of this session's contracts (theorems on heaps, reads and walks), cut out of the words that the kit's print writes for this seat: what no text of the seat mentions is left out. No condition beyond each statement's own. -/
import Derived.Test.YtlledohifanieaaWWords
/-! ### 58. A guarded operation whose guard is known to want it: the same goal without the guard -/
namespace Go.Proofs.YtlledohifanieaaW.PrintWords
open Go.RowKit
section
variable {P : Program} {ops : Array Oper} {rest : List Oper} {o : Oper} {a : Act} {Q : Exit → Act → World → Prop} {W : World}
end
end Go.Proofs.YtlledohifanieaaW.PrintWords
