/-
  No cell of these rows narrows 'for every input' (looked for: loops, veiled, ifaces, maps, wideKeys, modest, calm, conditions, laid).
  DERIVED. THE GIVEN ROWS OF THIS SEAT. 4 by the template 'for every input the law returns true; each argument reads behind the call as it read before'; 0 by the template 'total and deterministic' (their statements: YtmebkfcoadbakaaTotals.lean).
  GIVEN WITH THE SEED: the statements are not yours to turn. If you find one false, say at which input.
  Laid BY PROGRAM, IN A SANDBOX (cutbox-rows.mjs): the forced cells as the released guide's own fill.sh prints them over the translation 17b2b1527d7e253d… (all of the seat's roots in one cut). By AI agents, Wed Nov 11 2026. No macro, syntax, notation, axiom, sorry.
-/
import Derived.Test.YtmebkfcoadbakaaChecked
import GoSem.Claim
import GoSem.ClaimJoined
import GoSem.ClaimMapViews
import Derived.JoinedTies
import Derived.KernelRfl
namespace Go.Proofs.Ytmebkfcoadbakaa
/- THE CELL 'sum', in the pinned program and in every row, IS THE sha256 OF THE DUMP (.gsa) THAT YtmebkfcoadbakaaProg.lean LOADS. Nothing in Lean hashes anything: it is a label: what it is worth is what the hold of that sum in a sandbox is worth. -/
noncomputable def Try.pinned : Pinned := { name := "ytmebkfcoadbakaa", sum := "17b2b1527d7e253ded224e407a39da442133debdb75cb2a7f6626c5179597929", checked := Try.checked }
namespace Rows
def none {H : Type} : Left H := { results := [], args := [] }

/-- 'laws.FnExactRunClock': WHATEVER THE INPUT: true; the input reads as it did. -/
def fnExactRunClockSpec : ChangeSpec := { name := "fnExactRunClock", fn := fun _ => fun
  | [d1, d2] => { results := [.lit (.bool true)], args := [d1, d2] }
  | _ => none }
def fnExactRunClockRow : OpenClaim := { program := "ytmebkfcoadbakaa", sum := "17b2b1527d7e253ded224e407a39da442133debdb75cb2a7f6626c5179597929", func := "loop.example/satelliteclock/laws.FnExactRunClock", spec := "fnExactRunClock", apart := false }
def FnExactRunClockSaid : Prop := fnExactRunClockRow.holds Try.pinned (OpenSpec.ofChange fnExactRunClockSpec)

/-- ITS FALSE NEIGHBOUR: 'it returns false'. Refute it at one input. -/
def fnExactRunClockWrong : ChangeSpec := { name := "fnExactRunClock", fn := fun _ => fun
  | [d1, d2] => { results := [.lit (.bool false)], args := [d1, d2] }
  | _ => none }
def FnExactRunClockWrongFalsely : Prop := fnExactRunClockRow.holds Try.pinned (OpenSpec.ofChange fnExactRunClockWrong)

/-- 'laws.FnRunClock': WHATEVER THE INPUT: true; the input reads as it did. -/
def fnRunClockSpec : ChangeSpec := { name := "fnRunClock", fn := fun _ => fun
  | [d] => { results := [.lit (.bool true)], args := [d] }
  | _ => none }
def fnRunClockRow : OpenClaim := { program := "ytmebkfcoadbakaa", sum := "17b2b1527d7e253ded224e407a39da442133debdb75cb2a7f6626c5179597929", func := "loop.example/satelliteclock/laws.FnRunClock", spec := "fnRunClock", apart := false }
def FnRunClockSaid : Prop := fnRunClockRow.holds Try.pinned (OpenSpec.ofChange fnRunClockSpec)

/-- ITS FALSE NEIGHBOUR: 'it returns false'. Refute it at one input. -/
def fnRunClockWrong : ChangeSpec := { name := "fnRunClock", fn := fun _ => fun
  | [d] => { results := [.lit (.bool false)], args := [d] }
  | _ => none }
def FnRunClockWrongFalsely : Prop := fnRunClockRow.holds Try.pinned (OpenSpec.ofChange fnRunClockWrong)

/-- 'laws.FnRunClockNone': WHATEVER THE INPUT: true; the input reads as it did. -/
def fnRunClockNoneSpec : ChangeSpec := { name := "fnRunClockNone", fn := fun _ => fun
  | [d] => { results := [.lit (.bool true)], args := [d] }
  | _ => none }
def fnRunClockNoneRow : OpenClaim := { program := "ytmebkfcoadbakaa", sum := "17b2b1527d7e253ded224e407a39da442133debdb75cb2a7f6626c5179597929", func := "loop.example/satelliteclock/laws.FnRunClockNone", spec := "fnRunClockNone", apart := false }
def FnRunClockNoneSaid : Prop := fnRunClockNoneRow.holds Try.pinned (OpenSpec.ofChange fnRunClockNoneSpec)

/-- ITS FALSE NEIGHBOUR: 'it returns false'. Refute it at one input. -/
def fnRunClockNoneWrong : ChangeSpec := { name := "fnRunClockNone", fn := fun _ => fun
  | [d] => { results := [.lit (.bool false)], args := [d] }
  | _ => none }
def FnRunClockNoneWrongFalsely : Prop := fnRunClockNoneRow.holds Try.pinned (OpenSpec.ofChange fnRunClockNoneWrong)

/-- 'laws.FnRunClockParts': WHATEVER THE INPUT: true; the input reads as it did. -/
def fnRunClockPartsSpec : ChangeSpec := { name := "fnRunClockParts", fn := fun _ => fun
  | [d] => { results := [.lit (.bool true)], args := [d] }
  | _ => none }
def fnRunClockPartsRow : OpenClaim := { program := "ytmebkfcoadbakaa", sum := "17b2b1527d7e253ded224e407a39da442133debdb75cb2a7f6626c5179597929", func := "loop.example/satelliteclock/laws.FnRunClockParts", spec := "fnRunClockParts", apart := false }
def FnRunClockPartsSaid : Prop := fnRunClockPartsRow.holds Try.pinned (OpenSpec.ofChange fnRunClockPartsSpec)

/-- ITS FALSE NEIGHBOUR: 'it returns false'. Refute it at one input. -/
def fnRunClockPartsWrong : ChangeSpec := { name := "fnRunClockParts", fn := fun _ => fun
  | [d] => { results := [.lit (.bool false)], args := [d] }
  | _ => none }
def FnRunClockPartsWrongFalsely : Prop := fnRunClockPartsRow.holds Try.pinned (OpenSpec.ofChange fnRunClockPartsWrong)

/- THE SECOND FORM. 'bulk': how many values and letters a reading holds, each counted each time it is reached (what is shared counts as often as it is met; a slice's spare places count too). A statement '..UptoSaid' is the law's where the arguments, and the package variables that the reading takes, are together of bulk at most 1048576: NARROWER than '..Said'. Prove '..Said' where nothing that the law and all that it calls make is longer than what came in: it says more and counts as full. Else prove '..UptoSaid'. A law counts once. -/
mutual
def uptoBulk {H : Type} : DataW H → Nat
  | .lit (.string bytes) => bytes.length + 1
  | .lit _ => 1
  | .nil => 1
  | .ptr d => uptoBulk d + 1
  | .slice elems spare => uptoBulkAll elems + uptoBulkAll spare + 1
  | .agg parts => uptoBulkAll parts + 1
  | .iface _ d => uptoBulk d + 1
  | .map entries => uptoBulkEntries entries + 1
  | .held _ => 1
def uptoBulkAll {H : Type} : List (DataW H) → Nat
  | [] => 0
  | d :: r => uptoBulk d + uptoBulkAll r
def uptoBulkEntries {H : Type} : List (Lit × DataW H) → Nat
  | [] => 0
  | x :: r => uptoBulkEntry x + uptoBulkEntries r
def uptoBulkEntry {H : Type} : Lit × DataW H → Nat
  | (.string bytes, d) => bytes.length + uptoBulk d + 1
  | (_, d) => uptoBulk d + 1
 end
def uptoSmall : (H : Type) → List (DataW H) → Bool := fun _ ds => decide (uptoBulkAll ds ≤ 1048576)
def OpenSpec.upto (s : _root_.Go.ChangeSpec) : _root_.Go.OpenSpec := { _root_.Go.OpenSpec.ofChange s with cond := some uptoSmall }

/-- 'laws.FnExactRunClock', WHERE WHAT IT READS IS OF BULK AT MOST 1048576: true; the input reads as it did. -/
def fnExactRunClockUptoRow : OpenClaim := { program := "ytmebkfcoadbakaa", sum := "17b2b1527d7e253ded224e407a39da442133debdb75cb2a7f6626c5179597929", func := "loop.example/satelliteclock/laws.FnExactRunClock", spec := "fnExactRunClock", apart := false, narrowed := true }
def FnExactRunClockUptoSaid : Prop := fnExactRunClockUptoRow.holds Try.pinned (OpenSpec.upto fnExactRunClockSpec)

/-- 'laws.FnRunClock', WHERE WHAT IT READS IS OF BULK AT MOST 1048576: true; the input reads as it did. -/
def fnRunClockUptoRow : OpenClaim := { program := "ytmebkfcoadbakaa", sum := "17b2b1527d7e253ded224e407a39da442133debdb75cb2a7f6626c5179597929", func := "loop.example/satelliteclock/laws.FnRunClock", spec := "fnRunClock", apart := false, narrowed := true }
def FnRunClockUptoSaid : Prop := fnRunClockUptoRow.holds Try.pinned (OpenSpec.upto fnRunClockSpec)

/-- 'laws.FnRunClockNone', WHERE WHAT IT READS IS OF BULK AT MOST 1048576: true; the input reads as it did. -/
def fnRunClockNoneUptoRow : OpenClaim := { program := "ytmebkfcoadbakaa", sum := "17b2b1527d7e253ded224e407a39da442133debdb75cb2a7f6626c5179597929", func := "loop.example/satelliteclock/laws.FnRunClockNone", spec := "fnRunClockNone", apart := false, narrowed := true }
def FnRunClockNoneUptoSaid : Prop := fnRunClockNoneUptoRow.holds Try.pinned (OpenSpec.upto fnRunClockNoneSpec)

/-- 'laws.FnRunClockParts', WHERE WHAT IT READS IS OF BULK AT MOST 1048576: true; the input reads as it did. -/
def fnRunClockPartsUptoRow : OpenClaim := { program := "ytmebkfcoadbakaa", sum := "17b2b1527d7e253ded224e407a39da442133debdb75cb2a7f6626c5179597929", func := "loop.example/satelliteclock/laws.FnRunClockParts", spec := "fnRunClockParts", apart := false, narrowed := true }
def FnRunClockPartsUptoSaid : Prop := fnRunClockPartsUptoRow.holds Try.pinned (OpenSpec.upto fnRunClockPartsSpec)

end Rows
end Go.Proofs.Ytmebkfcoadbakaa
