/-
  No cell of these rows narrows 'for every input' (looked for: loops, veiled, ifaces, maps, wideKeys, modest, calm, conditions, laid).
  DERIVED. THE GIVEN ROWS OF THIS SEAT. 11 by the template 'for every input the law returns true; each argument reads behind the call as it read before'; 0 by the template 'total and deterministic' (their statements: YtedmfipncmkfcaaTotals.lean).
  GIVEN WITH THE SEED: the statements are not yours to turn. If you find one false, say at which input.
  Laid BY PROGRAM, IN A SANDBOX (cutbox-rows.mjs): the forced cells as the released guide's own fill.sh prints them over the translation 4959f3cb06d34617… (all of the seat's roots in one cut). By AI agents, Wed Nov 11 2026. No macro, syntax, notation, axiom, sorry.
-/
import Derived.Test.YtedmfipncmkfcaaChecked
import GoSem.Claim
import GoSem.ClaimJoined
import GoSem.ClaimMapViews
import Derived.JoinedTies
import Derived.KernelRfl
namespace Go.Proofs.Ytedmfipncmkfcaa
/- THE CELL 'sum', in the pinned program and in every row, IS THE sha256 OF THE DUMP (.gsa) THAT YtedmfipncmkfcaaProg.lean LOADS. Nothing in Lean hashes anything: it is a label: what it is worth is what the hold of that sum in a sandbox is worth. -/
noncomputable def Try.pinned : Pinned := { name := "ytedmfipncmkfcaa", sum := "4959f3cb06d34617f97727fb5aba54a3c696da59382861469d4a0cf4a5aba8dd", checked := Try.checked }
namespace Rows
def none {H : Type} : Left H := { results := [], args := [] }

/-- 'laws.FnExactValidClock': WHATEVER THE INPUT: true; the input reads as it did. -/
def fnExactValidClockSpec : ChangeSpec := { name := "fnExactValidClock", fn := fun _ => fun
  | [d] => { results := [.lit (.bool true)], args := [d] }
  | _ => none }
def fnExactValidClockRow : OpenClaim := { program := "ytedmfipncmkfcaa", sum := "4959f3cb06d34617f97727fb5aba54a3c696da59382861469d4a0cf4a5aba8dd", func := "loop.example/satelliteclock/laws.FnExactValidClock", spec := "fnExactValidClock", apart := false }
def FnExactValidClockSaid : Prop := fnExactValidClockRow.holds Try.pinned (OpenSpec.ofChange fnExactValidClockSpec)

/-- ITS FALSE NEIGHBOUR: 'it returns false'. Refute it at one input. -/
def fnExactValidClockWrong : ChangeSpec := { name := "fnExactValidClock", fn := fun _ => fun
  | [d] => { results := [.lit (.bool false)], args := [d] }
  | _ => none }
def FnExactValidClockWrongFalsely : Prop := fnExactValidClockRow.holds Try.pinned (OpenSpec.ofChange fnExactValidClockWrong)

/-- 'laws.FnExactOffsetAt': WHATEVER THE INPUT: true; the input reads as it did. -/
def fnExactOffsetAtSpec : ChangeSpec := { name := "fnExactOffsetAt", fn := fun _ => fun
  | [d1, d2] => { results := [.lit (.bool true)], args := [d1, d2] }
  | _ => none }
def fnExactOffsetAtRow : OpenClaim := { program := "ytedmfipncmkfcaa", sum := "4959f3cb06d34617f97727fb5aba54a3c696da59382861469d4a0cf4a5aba8dd", func := "loop.example/satelliteclock/laws.FnExactOffsetAt", spec := "fnExactOffsetAt", apart := false }
def FnExactOffsetAtSaid : Prop := fnExactOffsetAtRow.holds Try.pinned (OpenSpec.ofChange fnExactOffsetAtSpec)

/-- ITS FALSE NEIGHBOUR: 'it returns false'. Refute it at one input. -/
def fnExactOffsetAtWrong : ChangeSpec := { name := "fnExactOffsetAt", fn := fun _ => fun
  | [d1, d2] => { results := [.lit (.bool false)], args := [d1, d2] }
  | _ => none }
def FnExactOffsetAtWrongFalsely : Prop := fnExactOffsetAtRow.holds Try.pinned (OpenSpec.ofChange fnExactOffsetAtWrong)

/-- 'laws.FnValidClock': WHATEVER THE INPUT: true; the input reads as it did. -/
def fnValidClockSpec : ChangeSpec := { name := "fnValidClock", fn := fun _ => fun
  | [d] => { results := [.lit (.bool true)], args := [d] }
  | _ => none }
def fnValidClockRow : OpenClaim := { program := "ytedmfipncmkfcaa", sum := "4959f3cb06d34617f97727fb5aba54a3c696da59382861469d4a0cf4a5aba8dd", func := "loop.example/satelliteclock/laws.FnValidClock", spec := "fnValidClock", apart := false }
def FnValidClockSaid : Prop := fnValidClockRow.holds Try.pinned (OpenSpec.ofChange fnValidClockSpec)

/-- ITS FALSE NEIGHBOUR: 'it returns false'. Refute it at one input. -/
def fnValidClockWrong : ChangeSpec := { name := "fnValidClock", fn := fun _ => fun
  | [d] => { results := [.lit (.bool false)], args := [d] }
  | _ => none }
def FnValidClockWrongFalsely : Prop := fnValidClockRow.holds Try.pinned (OpenSpec.ofChange fnValidClockWrong)

/-- 'laws.FnOffsetAt': WHATEVER THE INPUT: true; the input reads as it did. -/
def fnOffsetAtSpec : ChangeSpec := { name := "fnOffsetAt", fn := fun _ => fun
  | [d] => { results := [.lit (.bool true)], args := [d] }
  | _ => none }
def fnOffsetAtRow : OpenClaim := { program := "ytedmfipncmkfcaa", sum := "4959f3cb06d34617f97727fb5aba54a3c696da59382861469d4a0cf4a5aba8dd", func := "loop.example/satelliteclock/laws.FnOffsetAt", spec := "fnOffsetAt", apart := false }
def FnOffsetAtSaid : Prop := fnOffsetAtRow.holds Try.pinned (OpenSpec.ofChange fnOffsetAtSpec)

/-- ITS FALSE NEIGHBOUR: 'it returns false'. Refute it at one input. -/
def fnOffsetAtWrong : ChangeSpec := { name := "fnOffsetAt", fn := fun _ => fun
  | [d] => { results := [.lit (.bool false)], args := [d] }
  | _ => none }
def FnOffsetAtWrongFalsely : Prop := fnOffsetAtRow.holds Try.pinned (OpenSpec.ofChange fnOffsetAtWrong)

/-- 'laws.FnOffsetAtOpposite': WHATEVER THE INPUT: true; the input reads as it did. -/
def fnOffsetAtOppositeSpec : ChangeSpec := { name := "fnOffsetAtOpposite", fn := fun _ => fun
  | [d] => { results := [.lit (.bool true)], args := [d] }
  | _ => none }
def fnOffsetAtOppositeRow : OpenClaim := { program := "ytedmfipncmkfcaa", sum := "4959f3cb06d34617f97727fb5aba54a3c696da59382861469d4a0cf4a5aba8dd", func := "loop.example/satelliteclock/laws.FnOffsetAtOpposite", spec := "fnOffsetAtOpposite", apart := false }
def FnOffsetAtOppositeSaid : Prop := fnOffsetAtOppositeRow.holds Try.pinned (OpenSpec.ofChange fnOffsetAtOppositeSpec)

/-- ITS FALSE NEIGHBOUR: 'it returns false'. Refute it at one input. -/
def fnOffsetAtOppositeWrong : ChangeSpec := { name := "fnOffsetAtOpposite", fn := fun _ => fun
  | [d] => { results := [.lit (.bool false)], args := [d] }
  | _ => none }
def FnOffsetAtOppositeWrongFalsely : Prop := fnOffsetAtOppositeRow.holds Try.pinned (OpenSpec.ofChange fnOffsetAtOppositeWrong)

/-- 'laws.FnOffsetAtSteady': WHATEVER THE INPUT: true; the input reads as it did. -/
def fnOffsetAtSteadySpec : ChangeSpec := { name := "fnOffsetAtSteady", fn := fun _ => fun
  | [d] => { results := [.lit (.bool true)], args := [d] }
  | _ => none }
def fnOffsetAtSteadyRow : OpenClaim := { program := "ytedmfipncmkfcaa", sum := "4959f3cb06d34617f97727fb5aba54a3c696da59382861469d4a0cf4a5aba8dd", func := "loop.example/satelliteclock/laws.FnOffsetAtSteady", spec := "fnOffsetAtSteady", apart := false }
def FnOffsetAtSteadySaid : Prop := fnOffsetAtSteadyRow.holds Try.pinned (OpenSpec.ofChange fnOffsetAtSteadySpec)

/-- ITS FALSE NEIGHBOUR: 'it returns false'. Refute it at one input. -/
def fnOffsetAtSteadyWrong : ChangeSpec := { name := "fnOffsetAtSteady", fn := fun _ => fun
  | [d] => { results := [.lit (.bool false)], args := [d] }
  | _ => none }
def FnOffsetAtSteadyWrongFalsely : Prop := fnOffsetAtSteadyRow.holds Try.pinned (OpenSpec.ofChange fnOffsetAtSteadyWrong)

/-- 'laws.FnExactStepClock': WHATEVER THE INPUT: true; the input reads as it did. -/
def fnExactStepClockSpec : ChangeSpec := { name := "fnExactStepClock", fn := fun _ => fun
  | [d1, d2, d3] => { results := [.lit (.bool true)], args := [d1, d2, d3] }
  | _ => none }
def fnExactStepClockRow : OpenClaim := { program := "ytedmfipncmkfcaa", sum := "4959f3cb06d34617f97727fb5aba54a3c696da59382861469d4a0cf4a5aba8dd", func := "loop.example/satelliteclock/laws.FnExactStepClock", spec := "fnExactStepClock", apart := false }
def FnExactStepClockSaid : Prop := fnExactStepClockRow.holds Try.pinned (OpenSpec.ofChange fnExactStepClockSpec)

/-- ITS FALSE NEIGHBOUR: 'it returns false'. Refute it at one input. -/
def fnExactStepClockWrong : ChangeSpec := { name := "fnExactStepClock", fn := fun _ => fun
  | [d1, d2, d3] => { results := [.lit (.bool false)], args := [d1, d2, d3] }
  | _ => none }
def FnExactStepClockWrongFalsely : Prop := fnExactStepClockRow.holds Try.pinned (OpenSpec.ofChange fnExactStepClockWrong)

/-- 'laws.FnStepClockZero': WHATEVER THE INPUT: true; the input reads as it did. -/
def fnStepClockZeroSpec : ChangeSpec := { name := "fnStepClockZero", fn := fun _ => fun
  | [d] => { results := [.lit (.bool true)], args := [d] }
  | _ => none }
def fnStepClockZeroRow : OpenClaim := { program := "ytedmfipncmkfcaa", sum := "4959f3cb06d34617f97727fb5aba54a3c696da59382861469d4a0cf4a5aba8dd", func := "loop.example/satelliteclock/laws.FnStepClockZero", spec := "fnStepClockZero", apart := false }
def FnStepClockZeroSaid : Prop := fnStepClockZeroRow.holds Try.pinned (OpenSpec.ofChange fnStepClockZeroSpec)

/-- ITS FALSE NEIGHBOUR: 'it returns false'. Refute it at one input. -/
def fnStepClockZeroWrong : ChangeSpec := { name := "fnStepClockZero", fn := fun _ => fun
  | [d] => { results := [.lit (.bool false)], args := [d] }
  | _ => none }
def FnStepClockZeroWrongFalsely : Prop := fnStepClockZeroRow.holds Try.pinned (OpenSpec.ofChange fnStepClockZeroWrong)

/-- 'laws.FnStepClock': WHATEVER THE INPUT: true; the input reads as it did. -/
def fnStepClockSpec : ChangeSpec := { name := "fnStepClock", fn := fun _ => fun
  | [d] => { results := [.lit (.bool true)], args := [d] }
  | _ => none }
def fnStepClockRow : OpenClaim := { program := "ytedmfipncmkfcaa", sum := "4959f3cb06d34617f97727fb5aba54a3c696da59382861469d4a0cf4a5aba8dd", func := "loop.example/satelliteclock/laws.FnStepClock", spec := "fnStepClock", apart := false }
def FnStepClockSaid : Prop := fnStepClockRow.holds Try.pinned (OpenSpec.ofChange fnStepClockSpec)

/-- ITS FALSE NEIGHBOUR: 'it returns false'. Refute it at one input. -/
def fnStepClockWrong : ChangeSpec := { name := "fnStepClock", fn := fun _ => fun
  | [d] => { results := [.lit (.bool false)], args := [d] }
  | _ => none }
def FnStepClockWrongFalsely : Prop := fnStepClockRow.holds Try.pinned (OpenSpec.ofChange fnStepClockWrong)

/-- 'laws.FnStepClockRate': WHATEVER THE INPUT: true; the input reads as it did. -/
def fnStepClockRateSpec : ChangeSpec := { name := "fnStepClockRate", fn := fun _ => fun
  | [d] => { results := [.lit (.bool true)], args := [d] }
  | _ => none }
def fnStepClockRateRow : OpenClaim := { program := "ytedmfipncmkfcaa", sum := "4959f3cb06d34617f97727fb5aba54a3c696da59382861469d4a0cf4a5aba8dd", func := "loop.example/satelliteclock/laws.FnStepClockRate", spec := "fnStepClockRate", apart := false }
def FnStepClockRateSaid : Prop := fnStepClockRateRow.holds Try.pinned (OpenSpec.ofChange fnStepClockRateSpec)

/-- ITS FALSE NEIGHBOUR: 'it returns false'. Refute it at one input. -/
def fnStepClockRateWrong : ChangeSpec := { name := "fnStepClockRate", fn := fun _ => fun
  | [d] => { results := [.lit (.bool false)], args := [d] }
  | _ => none }
def FnStepClockRateWrongFalsely : Prop := fnStepClockRateRow.holds Try.pinned (OpenSpec.ofChange fnStepClockRateWrong)

/-- 'laws.FnStepClockRepeat': WHATEVER THE INPUT: true; the input reads as it did. -/
def fnStepClockRepeatSpec : ChangeSpec := { name := "fnStepClockRepeat", fn := fun _ => fun
  | [d] => { results := [.lit (.bool true)], args := [d] }
  | _ => none }
def fnStepClockRepeatRow : OpenClaim := { program := "ytedmfipncmkfcaa", sum := "4959f3cb06d34617f97727fb5aba54a3c696da59382861469d4a0cf4a5aba8dd", func := "loop.example/satelliteclock/laws.FnStepClockRepeat", spec := "fnStepClockRepeat", apart := false }
def FnStepClockRepeatSaid : Prop := fnStepClockRepeatRow.holds Try.pinned (OpenSpec.ofChange fnStepClockRepeatSpec)

/-- ITS FALSE NEIGHBOUR: 'it returns false'. Refute it at one input. -/
def fnStepClockRepeatWrong : ChangeSpec := { name := "fnStepClockRepeat", fn := fun _ => fun
  | [d] => { results := [.lit (.bool false)], args := [d] }
  | _ => none }
def FnStepClockRepeatWrongFalsely : Prop := fnStepClockRepeatRow.holds Try.pinned (OpenSpec.ofChange fnStepClockRepeatWrong)

/- THE SECOND FORM. 'bulk': how many values and letters a reading holds, each counted each time it is reached (what is shared counts as often as it is met; a slice's spare places count too). A statement '..UptoSaid' is the law's where the arguments, and the package variables that the reading takes, are together of bulk at most 1048576: NARROWER than '..Said'. Prove '..Said' where nothing that the law and all that it calls make is longer than what came in: it says more and counts as full. Else prove '..UptoSaid'. A law counts once. -/
mutual
def uptoBulk {H : Type} : DataW H → Nat
  | .lit (.string bytes) => bytes.length + 1
  | .lit _ => 1
  | .nil => 1
  | .ptr d => uptoBulk d + 1
  | .slice elems spare => uptoBulkAll elems + uptoBulkAll spare + 1
  | .agg parts => uptoBulkAll parts + 1
  | .iface _ d => uptoBulk d + 1
  | .map entries => uptoBulkEntries entries + 1
  | .held _ => 1
def uptoBulkAll {H : Type} : List (DataW H) → Nat
  | [] => 0
  | d :: r => uptoBulk d + uptoBulkAll r
def uptoBulkEntries {H : Type} : List (Lit × DataW H) → Nat
  | [] => 0
  | x :: r => uptoBulkEntry x + uptoBulkEntries r
def uptoBulkEntry {H : Type} : Lit × DataW H → Nat
  | (.string bytes, d) => bytes.length + uptoBulk d + 1
  | (_, d) => uptoBulk d + 1
 end
def uptoSmall : (H : Type) → List (DataW H) → Bool := fun _ ds => decide (uptoBulkAll ds ≤ 1048576)
def OpenSpec.upto (s : _root_.Go.ChangeSpec) : _root_.Go.OpenSpec := { _root_.Go.OpenSpec.ofChange s with cond := some uptoSmall }

/-- 'laws.FnExactValidClock', WHERE WHAT IT READS IS OF BULK AT MOST 1048576: true; the input reads as it did. -/
def fnExactValidClockUptoRow : OpenClaim := { program := "ytedmfipncmkfcaa", sum := "4959f3cb06d34617f97727fb5aba54a3c696da59382861469d4a0cf4a5aba8dd", func := "loop.example/satelliteclock/laws.FnExactValidClock", spec := "fnExactValidClock", apart := false, narrowed := true }
def FnExactValidClockUptoSaid : Prop := fnExactValidClockUptoRow.holds Try.pinned (OpenSpec.upto fnExactValidClockSpec)

/-- 'laws.FnExactOffsetAt', WHERE WHAT IT READS IS OF BULK AT MOST 1048576: true; the input reads as it did. -/
def fnExactOffsetAtUptoRow : OpenClaim := { program := "ytedmfipncmkfcaa", sum := "4959f3cb06d34617f97727fb5aba54a3c696da59382861469d4a0cf4a5aba8dd", func := "loop.example/satelliteclock/laws.FnExactOffsetAt", spec := "fnExactOffsetAt", apart := false, narrowed := true }
def FnExactOffsetAtUptoSaid : Prop := fnExactOffsetAtUptoRow.holds Try.pinned (OpenSpec.upto fnExactOffsetAtSpec)

/-- 'laws.FnValidClock', WHERE WHAT IT READS IS OF BULK AT MOST 1048576: true; the input reads as it did. -/
def fnValidClockUptoRow : OpenClaim := { program := "ytedmfipncmkfcaa", sum := "4959f3cb06d34617f97727fb5aba54a3c696da59382861469d4a0cf4a5aba8dd", func := "loop.example/satelliteclock/laws.FnValidClock", spec := "fnValidClock", apart := false, narrowed := true }
def FnValidClockUptoSaid : Prop := fnValidClockUptoRow.holds Try.pinned (OpenSpec.upto fnValidClockSpec)

/-- 'laws.FnOffsetAt', WHERE WHAT IT READS IS OF BULK AT MOST 1048576: true; the input reads as it did. -/
def fnOffsetAtUptoRow : OpenClaim := { program := "ytedmfipncmkfcaa", sum := "4959f3cb06d34617f97727fb5aba54a3c696da59382861469d4a0cf4a5aba8dd", func := "loop.example/satelliteclock/laws.FnOffsetAt", spec := "fnOffsetAt", apart := false, narrowed := true }
def FnOffsetAtUptoSaid : Prop := fnOffsetAtUptoRow.holds Try.pinned (OpenSpec.upto fnOffsetAtSpec)

/-- 'laws.FnOffsetAtOpposite', WHERE WHAT IT READS IS OF BULK AT MOST 1048576: true; the input reads as it did. -/
def fnOffsetAtOppositeUptoRow : OpenClaim := { program := "ytedmfipncmkfcaa", sum := "4959f3cb06d34617f97727fb5aba54a3c696da59382861469d4a0cf4a5aba8dd", func := "loop.example/satelliteclock/laws.FnOffsetAtOpposite", spec := "fnOffsetAtOpposite", apart := false, narrowed := true }
def FnOffsetAtOppositeUptoSaid : Prop := fnOffsetAtOppositeUptoRow.holds Try.pinned (OpenSpec.upto fnOffsetAtOppositeSpec)

/-- 'laws.FnOffsetAtSteady', WHERE WHAT IT READS IS OF BULK AT MOST 1048576: true; the input reads as it did. -/
def fnOffsetAtSteadyUptoRow : OpenClaim := { program := "ytedmfipncmkfcaa", sum := "4959f3cb06d34617f97727fb5aba54a3c696da59382861469d4a0cf4a5aba8dd", func := "loop.example/satelliteclock/laws.FnOffsetAtSteady", spec := "fnOffsetAtSteady", apart := false, narrowed := true }
def FnOffsetAtSteadyUptoSaid : Prop := fnOffsetAtSteadyUptoRow.holds Try.pinned (OpenSpec.upto fnOffsetAtSteadySpec)

/-- 'laws.FnExactStepClock', WHERE WHAT IT READS IS OF BULK AT MOST 1048576: true; the input reads as it did. -/
def fnExactStepClockUptoRow : OpenClaim := { program := "ytedmfipncmkfcaa", sum := "4959f3cb06d34617f97727fb5aba54a3c696da59382861469d4a0cf4a5aba8dd", func := "loop.example/satelliteclock/laws.FnExactStepClock", spec := "fnExactStepClock", apart := false, narrowed := true }
def FnExactStepClockUptoSaid : Prop := fnExactStepClockUptoRow.holds Try.pinned (OpenSpec.upto fnExactStepClockSpec)

/-- 'laws.FnStepClockZero', WHERE WHAT IT READS IS OF BULK AT MOST 1048576: true; the input reads as it did. -/
def fnStepClockZeroUptoRow : OpenClaim := { program := "ytedmfipncmkfcaa", sum := "4959f3cb06d34617f97727fb5aba54a3c696da59382861469d4a0cf4a5aba8dd", func := "loop.example/satelliteclock/laws.FnStepClockZero", spec := "fnStepClockZero", apart := false, narrowed := true }
def FnStepClockZeroUptoSaid : Prop := fnStepClockZeroUptoRow.holds Try.pinned (OpenSpec.upto fnStepClockZeroSpec)

/-- 'laws.FnStepClock', WHERE WHAT IT READS IS OF BULK AT MOST 1048576: true; the input reads as it did. -/
def fnStepClockUptoRow : OpenClaim := { program := "ytedmfipncmkfcaa", sum := "4959f3cb06d34617f97727fb5aba54a3c696da59382861469d4a0cf4a5aba8dd", func := "loop.example/satelliteclock/laws.FnStepClock", spec := "fnStepClock", apart := false, narrowed := true }
def FnStepClockUptoSaid : Prop := fnStepClockUptoRow.holds Try.pinned (OpenSpec.upto fnStepClockSpec)

/-- 'laws.FnStepClockRate', WHERE WHAT IT READS IS OF BULK AT MOST 1048576: true; the input reads as it did. -/
def fnStepClockRateUptoRow : OpenClaim := { program := "ytedmfipncmkfcaa", sum := "4959f3cb06d34617f97727fb5aba54a3c696da59382861469d4a0cf4a5aba8dd", func := "loop.example/satelliteclock/laws.FnStepClockRate", spec := "fnStepClockRate", apart := false, narrowed := true }
def FnStepClockRateUptoSaid : Prop := fnStepClockRateUptoRow.holds Try.pinned (OpenSpec.upto fnStepClockRateSpec)

/-- 'laws.FnStepClockRepeat', WHERE WHAT IT READS IS OF BULK AT MOST 1048576: true; the input reads as it did. -/
def fnStepClockRepeatUptoRow : OpenClaim := { program := "ytedmfipncmkfcaa", sum := "4959f3cb06d34617f97727fb5aba54a3c696da59382861469d4a0cf4a5aba8dd", func := "loop.example/satelliteclock/laws.FnStepClockRepeat", spec := "fnStepClockRepeat", apart := false, narrowed := true }
def FnStepClockRepeatUptoSaid : Prop := fnStepClockRepeatUptoRow.holds Try.pinned (OpenSpec.upto fnStepClockRepeatSpec)

end Rows
end Go.Proofs.Ytedmfipncmkfcaa
