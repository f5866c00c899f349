/- Contracts of the Go functions that this seat's laws reach: each call returns what the plain function beside it tells, and leaves what was there; no condition but that result. Written by a program of this session (pmore.py, over the kit's print). -/
import Derived.Test.YtedmfipncmkfcaaProg
import Derived.Shelf.Abstract
import Derived.Below
import Derived.Deep.Draws
import Derived.Deep.AppendLies
import Derived.Maps.AppendAt
import Derived.OwnWalk
import Derived.Laws.BytesArg
import Derived.Laws.MakeOwn
import Derived.Laws.OwnMore
import Derived.Deep.OwnRows
import Derived.Tactics
import Derived.Lib.ConvBytes
import Derived.Laws.Slices
import Derived.WalkKit
import Derived.KernelRfl
import Derived.RowKit3
import Derived.Deep.LoopGhost
import Derived.Deep.QuietTactic
import Derived.BigQuiet
import Derived.WideLaws
import Derived.Deep.DeepCutAuto
import Derived.Deep.CutBlock
import Derived.Deep.RegionHeld3
import Derived.Laws.Rows
import Derived.Lib.AppendStr
import Derived.ArgAppend
import Derived.Laws.IdiomCopy
import Derived.OrdersHeld
import Derived.Laws.BitsLemmas
import Derived.RowKit
import Derived.Test.YtedmfipncmkfcaaWWords
import Derived.Test.YtedmfipncmkfcaaWLast
import Derived.Test.YtedmfipncmkfcaaWTab
import Derived.Test.YtedmfipncmkfcaaWFour
import Derived.Test.YtedmfipncmkfcaaWQPut
import Derived.Test.YtedmfipncmkfcaaWApart
import Derived.Test.YtedmfipncmkfcaaWArr
import Derived.Test.YtedmfipncmkfcaaWZeros
import Derived.Test.YtedmfipncmkfcaaWFoot
import Derived.Test.YtedmfipncmkfcaaWKept
import Derived.Test.YtedmfipncmkfcaaWShare
import Derived.Test.YtedmfipncmkfcaaWN
import Derived.Test.YtedmfipncmkfcaaWFootNe
import Derived.Test.YtedmfipncmkfcaaWAt
import Derived.Test.YtedmfipncmkfcaaWEqStruct
import Derived.Test.YtedmfipncmkfcaaWRepsOne
import Derived.Test.YtedmfipncmkfcaaWInv
import Derived.Test.YtedmfipncmkfcaaWInvWords
import Derived.Test.YtedmfipncmkfcaaWGuard
import Derived.Test.YtedmfipncmkfcaaWNEv
import Derived.Test.YtedmfipncmkfcaaWMore
namespace Go.Proofs.Ytedmfipncmkfcaa.PAll
open Go.RowKit Go.Proofs.YtedmfipncmkfcaaW.PrintWords Go.Proofs.YtedmfipncmkfcaaW.PrintLast Go.Proofs.YtedmfipncmkfcaaW.PrintMore
attribute [local go_sem] max2_int min2_int max_two min_two max_three min_three max_four min_four   -- for this text's walks alone
set_option linter.unusedVariables false
set_option linter.unusedSimpArgs false



def errW : Option Int → Value
  | none => .nilIface
  | some c => .iface 0 (.int .i64 c)
theorem errW_none : errW none = .nilIface := rfl
theorem errW_some (c : Int) : errW (some c) = .iface 0 (.int .i64 c) := rfl

theorem info3 : (Try.prog.info? 3).map (fun i => (i.zero, i.size, i.bytes)) = some (some (.int .i64 0), 1, 8) := by kernel_rfl
theorem info5 : (Try.prog.info? 5).map (fun i => (i.zero, i.size, i.bytes)) = some (some (.int .u8 0), 1, 1) := by kernel_rfl
-- the values' own types

end Go.Proofs.Ytedmfipncmkfcaa.PAll
