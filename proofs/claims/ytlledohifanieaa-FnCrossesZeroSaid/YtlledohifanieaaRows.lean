/-
  No cell of these rows narrows 'for every input' (looked for: loops, veiled, ifaces, maps, wideKeys, modest, calm, conditions, laid).
  DERIVED. THE GIVEN ROWS OF THIS SEAT. 6 by the template 'for every input the law returns true; each argument reads behind the call as it read before'; 0 by the template 'total and deterministic' (their statements: YtlledohifanieaaTotals.lean).
  GIVEN WITH THE SEED: the statements are not yours to turn. If you find one false, say at which input.
  Laid BY PROGRAM, IN A SANDBOX (cutbox-rows.mjs): the forced cells as the released guide's own fill.sh prints them over the translation 90b783155bfe8e6f… (all of the seat's roots in one cut). By AI agents, Wed Nov 11 2026. No macro, syntax, notation, axiom, sorry.
-/
import Derived.Test.YtlledohifanieaaChecked
import GoSem.Claim
import GoSem.ClaimJoined
import GoSem.ClaimMapViews
import Derived.JoinedTies
import Derived.KernelRfl
namespace Go.Proofs.Ytlledohifanieaa
/- THE CELL 'sum', in the pinned program and in every row, IS THE sha256 OF THE DUMP (.gsa) THAT YtlledohifanieaaProg.lean LOADS. Nothing in Lean hashes anything: it is a label: what it is worth is what the hold of that sum in a sandbox is worth. -/
noncomputable def Try.pinned : Pinned := { name := "ytlledohifanieaa", sum := "90b783155bfe8e6f3a672fd6d6c8297c1d620dd2048b68a37d3643d3e68feac7", checked := Try.checked }
namespace Rows
def none {H : Type} : Left H := { results := [], args := [] }

/-- 'laws.FnExactSlopeOf': WHATEVER THE INPUT: true; the input reads as it did. -/
def fnExactSlopeOfSpec : ChangeSpec := { name := "fnExactSlopeOf", fn := fun _ => fun
  | [d] => { results := [.lit (.bool true)], args := [d] }
  | _ => none }
def fnExactSlopeOfRow : OpenClaim := { program := "ytlledohifanieaa", sum := "90b783155bfe8e6f3a672fd6d6c8297c1d620dd2048b68a37d3643d3e68feac7", func := "loop.example/satelliteclock/laws.FnExactSlopeOf", spec := "fnExactSlopeOf", unfollowed := true, recurses := true, apart := false }
def FnExactSlopeOfSaid : Prop := fnExactSlopeOfRow.holds Try.pinned (OpenSpec.ofChange fnExactSlopeOfSpec)

/-- ITS FALSE NEIGHBOUR: 'it returns false'. Refute it at one input. -/
def fnExactSlopeOfWrong : ChangeSpec := { name := "fnExactSlopeOf", fn := fun _ => fun
  | [d] => { results := [.lit (.bool false)], args := [d] }
  | _ => none }
def FnExactSlopeOfWrongFalsely : Prop := fnExactSlopeOfRow.holds Try.pinned (OpenSpec.ofChange fnExactSlopeOfWrong)

/-- 'laws.FnExactSecondDiffs': WHATEVER THE INPUT: true; the input reads as it did. -/
def fnExactSecondDiffsSpec : ChangeSpec := { name := "fnExactSecondDiffs", fn := fun _ => fun
  | [d1, d2] => { results := [.lit (.bool true)], args := [d1, d2] }
  | _ => none }
def fnExactSecondDiffsRow : OpenClaim := { program := "ytlledohifanieaa", sum := "90b783155bfe8e6f3a672fd6d6c8297c1d620dd2048b68a37d3643d3e68feac7", func := "loop.example/satelliteclock/laws.FnExactSecondDiffs", spec := "fnExactSecondDiffs", unfollowed := true, recurses := true, apart := false }
def FnExactSecondDiffsSaid : Prop := fnExactSecondDiffsRow.holds Try.pinned (OpenSpec.ofChange fnExactSecondDiffsSpec)

/-- ITS FALSE NEIGHBOUR: 'it returns false'. Refute it at one input. -/
def fnExactSecondDiffsWrong : ChangeSpec := { name := "fnExactSecondDiffs", fn := fun _ => fun
  | [d1, d2] => { results := [.lit (.bool false)], args := [d1, d2] }
  | _ => none }
def FnExactSecondDiffsWrongFalsely : Prop := fnExactSecondDiffsRow.holds Try.pinned (OpenSpec.ofChange fnExactSecondDiffsWrong)

/-- 'laws.FnExactCrossesZero': WHATEVER THE INPUT: true; the input reads as it did. -/
def fnExactCrossesZeroSpec : ChangeSpec := { name := "fnExactCrossesZero", fn := fun _ => fun
  | [d] => { results := [.lit (.bool true)], args := [d] }
  | _ => none }
def fnExactCrossesZeroRow : OpenClaim := { program := "ytlledohifanieaa", sum := "90b783155bfe8e6f3a672fd6d6c8297c1d620dd2048b68a37d3643d3e68feac7", func := "loop.example/satelliteclock/laws.FnExactCrossesZero", spec := "fnExactCrossesZero", unfollowed := true, recurses := true, apart := false }
def FnExactCrossesZeroSaid : Prop := fnExactCrossesZeroRow.holds Try.pinned (OpenSpec.ofChange fnExactCrossesZeroSpec)

/-- ITS FALSE NEIGHBOUR: 'it returns false'. Refute it at one input. -/
def fnExactCrossesZeroWrong : ChangeSpec := { name := "fnExactCrossesZero", fn := fun _ => fun
  | [d] => { results := [.lit (.bool false)], args := [d] }
  | _ => none }
def FnExactCrossesZeroWrongFalsely : Prop := fnExactCrossesZeroRow.holds Try.pinned (OpenSpec.ofChange fnExactCrossesZeroWrong)

/-- 'laws.FnExactDeviationOf': WHATEVER THE INPUT: true; the input reads as it did. -/
def fnExactDeviationOfSpec : ChangeSpec := { name := "fnExactDeviationOf", fn := fun _ => fun
  | [d1, d2] => { results := [.lit (.bool true)], args := [d1, d2] }
  | _ => none }
def fnExactDeviationOfRow : OpenClaim := { program := "ytlledohifanieaa", sum := "90b783155bfe8e6f3a672fd6d6c8297c1d620dd2048b68a37d3643d3e68feac7", func := "loop.example/satelliteclock/laws.FnExactDeviationOf", spec := "fnExactDeviationOf", unfollowed := true, recurses := true, apart := false }
def FnExactDeviationOfSaid : Prop := fnExactDeviationOfRow.holds Try.pinned (OpenSpec.ofChange fnExactDeviationOfSpec)

/-- ITS FALSE NEIGHBOUR: 'it returns false'. Refute it at one input. -/
def fnExactDeviationOfWrong : ChangeSpec := { name := "fnExactDeviationOf", fn := fun _ => fun
  | [d1, d2] => { results := [.lit (.bool false)], args := [d1, d2] }
  | _ => none }
def FnExactDeviationOfWrongFalsely : Prop := fnExactDeviationOfRow.holds Try.pinned (OpenSpec.ofChange fnExactDeviationOfWrong)

/-- 'laws.FnCrossesZeroNone': WHATEVER THE INPUT: true; the input reads as it did. -/
def fnCrossesZeroNoneSpec : ChangeSpec := { name := "fnCrossesZeroNone", fn := fun _ => fun
  | [d] => { results := [.lit (.bool true)], args := [d] }
  | _ => none }
def fnCrossesZeroNoneRow : OpenClaim := { program := "ytlledohifanieaa", sum := "90b783155bfe8e6f3a672fd6d6c8297c1d620dd2048b68a37d3643d3e68feac7", func := "loop.example/satelliteclock/laws.FnCrossesZeroNone", spec := "fnCrossesZeroNone", unfollowed := true, recurses := true, apart := false }
def FnCrossesZeroNoneSaid : Prop := fnCrossesZeroNoneRow.holds Try.pinned (OpenSpec.ofChange fnCrossesZeroNoneSpec)

/-- ITS FALSE NEIGHBOUR: 'it returns false'. Refute it at one input. -/
def fnCrossesZeroNoneWrong : ChangeSpec := { name := "fnCrossesZeroNone", fn := fun _ => fun
  | [d] => { results := [.lit (.bool false)], args := [d] }
  | _ => none }
def FnCrossesZeroNoneWrongFalsely : Prop := fnCrossesZeroNoneRow.holds Try.pinned (OpenSpec.ofChange fnCrossesZeroNoneWrong)

/-- 'laws.FnCrossesZero': WHATEVER THE INPUT: true; the input reads as it did. -/
def fnCrossesZeroSpec : ChangeSpec := { name := "fnCrossesZero", fn := fun _ => fun
  | [d] => { results := [.lit (.bool true)], args := [d] }
  | _ => none }
def fnCrossesZeroRow : OpenClaim := { program := "ytlledohifanieaa", sum := "90b783155bfe8e6f3a672fd6d6c8297c1d620dd2048b68a37d3643d3e68feac7", func := "loop.example/satelliteclock/laws.FnCrossesZero", spec := "fnCrossesZero", unfollowed := true, recurses := true, apart := false }
def FnCrossesZeroSaid : Prop := fnCrossesZeroRow.holds Try.pinned (OpenSpec.ofChange fnCrossesZeroSpec)

/-- ITS FALSE NEIGHBOUR: 'it returns false'. Refute it at one input. -/
def fnCrossesZeroWrong : ChangeSpec := { name := "fnCrossesZero", fn := fun _ => fun
  | [d] => { results := [.lit (.bool false)], args := [d] }
  | _ => none }
def FnCrossesZeroWrongFalsely : Prop := fnCrossesZeroRow.holds Try.pinned (OpenSpec.ofChange fnCrossesZeroWrong)

/- THE SECOND FORM. 'bulk': how many values and letters a reading holds, each counted each time it is reached (what is shared counts as often as it is met; a slice's spare places count too). A statement '..UptoSaid' is the law's where the arguments, and the package variables that the reading takes, are together of bulk at most 1048576: NARROWER than '..Said'. Prove '..Said' where nothing that the law and all that it calls make is longer than what came in: it says more and counts as full. Else prove '..UptoSaid'. A law counts once. -/
mutual
def uptoBulk {H : Type} : DataW H → Nat
  | .lit (.string bytes) => bytes.length + 1
  | .lit _ => 1
  | .nil => 1
  | .ptr d => uptoBulk d + 1
  | .slice elems spare => uptoBulkAll elems + uptoBulkAll spare + 1
  | .agg parts => uptoBulkAll parts + 1
  | .iface _ d => uptoBulk d + 1
  | .map entries => uptoBulkEntries entries + 1
  | .held _ => 1
def uptoBulkAll {H : Type} : List (DataW H) → Nat
  | [] => 0
  | d :: r => uptoBulk d + uptoBulkAll r
def uptoBulkEntries {H : Type} : List (Lit × DataW H) → Nat
  | [] => 0
  | x :: r => uptoBulkEntry x + uptoBulkEntries r
def uptoBulkEntry {H : Type} : Lit × DataW H → Nat
  | (.string bytes, d) => bytes.length + uptoBulk d + 1
  | (_, d) => uptoBulk d + 1
 end
def uptoSmall : (H : Type) → List (DataW H) → Bool := fun _ ds => decide (uptoBulkAll ds ≤ 1048576)
def OpenSpec.upto (s : _root_.Go.ChangeSpec) : _root_.Go.OpenSpec := { _root_.Go.OpenSpec.ofChange s with cond := some uptoSmall }

/-- 'laws.FnExactSlopeOf', WHERE WHAT IT READS IS OF BULK AT MOST 1048576: true; the input reads as it did. -/
def fnExactSlopeOfUptoRow : OpenClaim := { program := "ytlledohifanieaa", sum := "90b783155bfe8e6f3a672fd6d6c8297c1d620dd2048b68a37d3643d3e68feac7", func := "loop.example/satelliteclock/laws.FnExactSlopeOf", spec := "fnExactSlopeOf", unfollowed := true, recurses := true, apart := false, narrowed := true }
def FnExactSlopeOfUptoSaid : Prop := fnExactSlopeOfUptoRow.holds Try.pinned (OpenSpec.upto fnExactSlopeOfSpec)

/-- 'laws.FnExactSecondDiffs', WHERE WHAT IT READS IS OF BULK AT MOST 1048576: true; the input reads as it did. -/
def fnExactSecondDiffsUptoRow : OpenClaim := { program := "ytlledohifanieaa", sum := "90b783155bfe8e6f3a672fd6d6c8297c1d620dd2048b68a37d3643d3e68feac7", func := "loop.example/satelliteclock/laws.FnExactSecondDiffs", spec := "fnExactSecondDiffs", unfollowed := true, recurses := true, apart := false, narrowed := true }
def FnExactSecondDiffsUptoSaid : Prop := fnExactSecondDiffsUptoRow.holds Try.pinned (OpenSpec.upto fnExactSecondDiffsSpec)

/-- 'laws.FnExactCrossesZero', WHERE WHAT IT READS IS OF BULK AT MOST 1048576: true; the input reads as it did. -/
def fnExactCrossesZeroUptoRow : OpenClaim := { program := "ytlledohifanieaa", sum := "90b783155bfe8e6f3a672fd6d6c8297c1d620dd2048b68a37d3643d3e68feac7", func := "loop.example/satelliteclock/laws.FnExactCrossesZero", spec := "fnExactCrossesZero", unfollowed := true, recurses := true, apart := false, narrowed := true }
def FnExactCrossesZeroUptoSaid : Prop := fnExactCrossesZeroUptoRow.holds Try.pinned (OpenSpec.upto fnExactCrossesZeroSpec)

/-- 'laws.FnExactDeviationOf', WHERE WHAT IT READS IS OF BULK AT MOST 1048576: true; the input reads as it did. -/
def fnExactDeviationOfUptoRow : OpenClaim := { program := "ytlledohifanieaa", sum := "90b783155bfe8e6f3a672fd6d6c8297c1d620dd2048b68a37d3643d3e68feac7", func := "loop.example/satelliteclock/laws.FnExactDeviationOf", spec := "fnExactDeviationOf", unfollowed := true, recurses := true, apart := false, narrowed := true }
def FnExactDeviationOfUptoSaid : Prop := fnExactDeviationOfUptoRow.holds Try.pinned (OpenSpec.upto fnExactDeviationOfSpec)

/-- 'laws.FnCrossesZeroNone', WHERE WHAT IT READS IS OF BULK AT MOST 1048576: true; the input reads as it did. -/
def fnCrossesZeroNoneUptoRow : OpenClaim := { program := "ytlledohifanieaa", sum := "90b783155bfe8e6f3a672fd6d6c8297c1d620dd2048b68a37d3643d3e68feac7", func := "loop.example/satelliteclock/laws.FnCrossesZeroNone", spec := "fnCrossesZeroNone", unfollowed := true, recurses := true, apart := false, narrowed := true }
def FnCrossesZeroNoneUptoSaid : Prop := fnCrossesZeroNoneUptoRow.holds Try.pinned (OpenSpec.upto fnCrossesZeroNoneSpec)

/-- 'laws.FnCrossesZero', WHERE WHAT IT READS IS OF BULK AT MOST 1048576: true; the input reads as it did. -/
def fnCrossesZeroUptoRow : OpenClaim := { program := "ytlledohifanieaa", sum := "90b783155bfe8e6f3a672fd6d6c8297c1d620dd2048b68a37d3643d3e68feac7", func := "loop.example/satelliteclock/laws.FnCrossesZero", spec := "fnCrossesZero", unfollowed := true, recurses := true, apart := false, narrowed := true }
def FnCrossesZeroUptoSaid : Prop := fnCrossesZeroUptoRow.holds Try.pinned (OpenSpec.upto fnCrossesZeroSpec)

end Rows
end Go.Proofs.Ytlledohifanieaa
