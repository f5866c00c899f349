/- Words of this session's contracts (theorems on heaps, reads and walks), cut out of the words that the kit's print writes for this seat: what no text of the seat mentions is left out. No condition beyond each statement's own. -/
import Derived.Test.YtkmklifflghojaaWN
/-! ### 52. A row that stays read whatever happens to a block (a set of blocks) doesn't lie there -/
namespace Go.Proofs.YtkmklifflghojaaW.PrintWords
open Go.RowKit
namespace Kd
section
variable {α : Type} {d : Kd α} {W : World} {g n : Nat} {S ok : Nat → Prop} {A : Option Addr} {ad : Addr} {xs : List α}
end
end Kd
end Go.Proofs.YtkmklifflghojaaW.PrintWords
