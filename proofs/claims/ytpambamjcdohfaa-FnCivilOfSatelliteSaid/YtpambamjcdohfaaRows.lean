/-
  No cell of these rows narrows 'for every input' (looked for: loops, veiled, ifaces, maps, wideKeys, modest, calm, conditions, laid).
  DERIVED. THE GIVEN ROWS OF THIS SEAT. 5 by the template 'for every input the law returns true; each argument reads behind the call as it read before'; 0 by the template 'total and deterministic' (their statements: YtpambamjcdohfaaTotals.lean).
  GIVEN WITH THE SEED: the statements are not yours to turn. If you find one false, say at which input.
  Laid BY PROGRAM, IN A SANDBOX (cutbox-rows.mjs): the forced cells as the released guide's own fill.sh prints them over the translation 9d45871587a8c6b7… (all of the seat's roots in one cut). By AI agents, Wed Nov 11 2026. No macro, syntax, notation, axiom, sorry.
-/
import Derived.Test.YtpambamjcdohfaaChecked
import GoSem.Claim
import GoSem.ClaimJoined
import GoSem.ClaimMapViews
import Derived.JoinedTies
import Derived.KernelRfl
namespace Go.Proofs.Ytpambamjcdohfaa
/- THE CELL 'sum', in the pinned program and in every row, IS THE sha256 OF THE DUMP (.gsa) THAT YtpambamjcdohfaaProg.lean LOADS. Nothing in Lean hashes anything: it is a label: what it is worth is what the hold of that sum in a sandbox is worth. -/
noncomputable def Try.pinned : Pinned := { name := "ytpambamjcdohfaa", sum := "9d45871587a8c6b7bb885f8f60be4a67bb434f368aa3e00db70ded3cff0ba2c8", checked := Try.checked }
namespace Rows
def none {H : Type} : Left H := { results := [], args := [] }

/-- 'laws.FnCivilOfNone': WHATEVER THE INPUT: true; the input reads as it did. -/
def fnCivilOfNoneSpec : ChangeSpec := { name := "fnCivilOfNone", fn := fun _ => fun
  | [d] => { results := [.lit (.bool true)], args := [d] }
  | _ => none }
def fnCivilOfNoneRow : OpenClaim := { program := "ytpambamjcdohfaa", sum := "9d45871587a8c6b7bb885f8f60be4a67bb434f368aa3e00db70ded3cff0ba2c8", func := "loop.example/satelliteclock/laws.FnCivilOfNone", spec := "fnCivilOfNone", apart := false }
def FnCivilOfNoneSaid : Prop := fnCivilOfNoneRow.holds Try.pinned (OpenSpec.ofChange fnCivilOfNoneSpec)

/-- ITS FALSE NEIGHBOUR: 'it returns false'. Refute it at one input. -/
def fnCivilOfNoneWrong : ChangeSpec := { name := "fnCivilOfNone", fn := fun _ => fun
  | [d] => { results := [.lit (.bool false)], args := [d] }
  | _ => none }
def FnCivilOfNoneWrongFalsely : Prop := fnCivilOfNoneRow.holds Try.pinned (OpenSpec.ofChange fnCivilOfNoneWrong)

/-- 'laws.FnCivilOf': WHATEVER THE INPUT: true; the input reads as it did. -/
def fnCivilOfSpec : ChangeSpec := { name := "fnCivilOf", fn := fun _ => fun
  | [d] => { results := [.lit (.bool true)], args := [d] }
  | _ => none }
def fnCivilOfRow : OpenClaim := { program := "ytpambamjcdohfaa", sum := "9d45871587a8c6b7bb885f8f60be4a67bb434f368aa3e00db70ded3cff0ba2c8", func := "loop.example/satelliteclock/laws.FnCivilOf", spec := "fnCivilOf", apart := false }
def FnCivilOfSaid : Prop := fnCivilOfRow.holds Try.pinned (OpenSpec.ofChange fnCivilOfSpec)

/-- ITS FALSE NEIGHBOUR: 'it returns false'. Refute it at one input. -/
def fnCivilOfWrong : ChangeSpec := { name := "fnCivilOf", fn := fun _ => fun
  | [d] => { results := [.lit (.bool false)], args := [d] }
  | _ => none }
def FnCivilOfWrongFalsely : Prop := fnCivilOfRow.holds Try.pinned (OpenSpec.ofChange fnCivilOfWrong)

/-- 'laws.FnSatelliteOfNext': WHATEVER THE INPUT: true; the input reads as it did. -/
def fnSatelliteOfNextSpec : ChangeSpec := { name := "fnSatelliteOfNext", fn := fun _ => fun
  | [d] => { results := [.lit (.bool true)], args := [d] }
  | _ => none }
def fnSatelliteOfNextRow : OpenClaim := { program := "ytpambamjcdohfaa", sum := "9d45871587a8c6b7bb885f8f60be4a67bb434f368aa3e00db70ded3cff0ba2c8", func := "loop.example/satelliteclock/laws.FnSatelliteOfNext", spec := "fnSatelliteOfNext", apart := false }
def FnSatelliteOfNextSaid : Prop := fnSatelliteOfNextRow.holds Try.pinned (OpenSpec.ofChange fnSatelliteOfNextSpec)

/-- ITS FALSE NEIGHBOUR: 'it returns false'. Refute it at one input. -/
def fnSatelliteOfNextWrong : ChangeSpec := { name := "fnSatelliteOfNext", fn := fun _ => fun
  | [d] => { results := [.lit (.bool false)], args := [d] }
  | _ => none }
def FnSatelliteOfNextWrongFalsely : Prop := fnSatelliteOfNextRow.holds Try.pinned (OpenSpec.ofChange fnSatelliteOfNextWrong)

/-- 'laws.FnCivilOfSatellite': WHATEVER THE INPUT: true; the input reads as it did. -/
def fnCivilOfSatelliteSpec : ChangeSpec := { name := "fnCivilOfSatellite", fn := fun _ => fun
  | [d] => { results := [.lit (.bool true)], args := [d] }
  | _ => none }
def fnCivilOfSatelliteRow : OpenClaim := { program := "ytpambamjcdohfaa", sum := "9d45871587a8c6b7bb885f8f60be4a67bb434f368aa3e00db70ded3cff0ba2c8", func := "loop.example/satelliteclock/laws.FnCivilOfSatellite", spec := "fnCivilOfSatellite", apart := false }
def FnCivilOfSatelliteSaid : Prop := fnCivilOfSatelliteRow.holds Try.pinned (OpenSpec.ofChange fnCivilOfSatelliteSpec)

/-- ITS FALSE NEIGHBOUR: 'it returns false'. Refute it at one input. -/
def fnCivilOfSatelliteWrong : ChangeSpec := { name := "fnCivilOfSatellite", fn := fun _ => fun
  | [d] => { results := [.lit (.bool false)], args := [d] }
  | _ => none }
def FnCivilOfSatelliteWrongFalsely : Prop := fnCivilOfSatelliteRow.holds Try.pinned (OpenSpec.ofChange fnCivilOfSatelliteWrong)

/-- 'laws.FnSatelliteOf': WHATEVER THE INPUT: true; the input reads as it did. -/
def fnSatelliteOfSpec : ChangeSpec := { name := "fnSatelliteOf", fn := fun _ => fun
  | [d] => { results := [.lit (.bool true)], args := [d] }
  | _ => none }
def fnSatelliteOfRow : OpenClaim := { program := "ytpambamjcdohfaa", sum := "9d45871587a8c6b7bb885f8f60be4a67bb434f368aa3e00db70ded3cff0ba2c8", func := "loop.example/satelliteclock/laws.FnSatelliteOf", spec := "fnSatelliteOf", apart := false }
def FnSatelliteOfSaid : Prop := fnSatelliteOfRow.holds Try.pinned (OpenSpec.ofChange fnSatelliteOfSpec)

/-- ITS FALSE NEIGHBOUR: 'it returns false'. Refute it at one input. -/
def fnSatelliteOfWrong : ChangeSpec := { name := "fnSatelliteOf", fn := fun _ => fun
  | [d] => { results := [.lit (.bool false)], args := [d] }
  | _ => none }
def FnSatelliteOfWrongFalsely : Prop := fnSatelliteOfRow.holds Try.pinned (OpenSpec.ofChange fnSatelliteOfWrong)

/- THE SECOND FORM. 'bulk': how many values and letters a reading holds, each counted each time it is reached (what is shared counts as often as it is met; a slice's spare places count too). A statement '..UptoSaid' is the law's where the arguments, and the package variables that the reading takes, are together of bulk at most 1048576: NARROWER than '..Said'. Prove '..Said' where nothing that the law and all that it calls make is longer than what came in: it says more and counts as full. Else prove '..UptoSaid'. A law counts once. -/
mutual
def uptoBulk {H : Type} : DataW H → Nat
  | .lit (.string bytes) => bytes.length + 1
  | .lit _ => 1
  | .nil => 1
  | .ptr d => uptoBulk d + 1
  | .slice elems spare => uptoBulkAll elems + uptoBulkAll spare + 1
  | .agg parts => uptoBulkAll parts + 1
  | .iface _ d => uptoBulk d + 1
  | .map entries => uptoBulkEntries entries + 1
  | .held _ => 1
def uptoBulkAll {H : Type} : List (DataW H) → Nat
  | [] => 0
  | d :: r => uptoBulk d + uptoBulkAll r
def uptoBulkEntries {H : Type} : List (Lit × DataW H) → Nat
  | [] => 0
  | x :: r => uptoBulkEntry x + uptoBulkEntries r
def uptoBulkEntry {H : Type} : Lit × DataW H → Nat
  | (.string bytes, d) => bytes.length + uptoBulk d + 1
  | (_, d) => uptoBulk d + 1
 end
def uptoSmall : (H : Type) → List (DataW H) → Bool := fun _ ds => decide (uptoBulkAll ds ≤ 1048576)
def OpenSpec.upto (s : _root_.Go.ChangeSpec) : _root_.Go.OpenSpec := { _root_.Go.OpenSpec.ofChange s with cond := some uptoSmall }

/-- 'laws.FnCivilOfNone', WHERE WHAT IT READS IS OF BULK AT MOST 1048576: true; the input reads as it did. -/
def fnCivilOfNoneUptoRow : OpenClaim := { program := "ytpambamjcdohfaa", sum := "9d45871587a8c6b7bb885f8f60be4a67bb434f368aa3e00db70ded3cff0ba2c8", func := "loop.example/satelliteclock/laws.FnCivilOfNone", spec := "fnCivilOfNone", apart := false, narrowed := true }
def FnCivilOfNoneUptoSaid : Prop := fnCivilOfNoneUptoRow.holds Try.pinned (OpenSpec.upto fnCivilOfNoneSpec)

/-- 'laws.FnCivilOf', WHERE WHAT IT READS IS OF BULK AT MOST 1048576: true; the input reads as it did. -/
def fnCivilOfUptoRow : OpenClaim := { program := "ytpambamjcdohfaa", sum := "9d45871587a8c6b7bb885f8f60be4a67bb434f368aa3e00db70ded3cff0ba2c8", func := "loop.example/satelliteclock/laws.FnCivilOf", spec := "fnCivilOf", apart := false, narrowed := true }
def FnCivilOfUptoSaid : Prop := fnCivilOfUptoRow.holds Try.pinned (OpenSpec.upto fnCivilOfSpec)

/-- 'laws.FnSatelliteOfNext', WHERE WHAT IT READS IS OF BULK AT MOST 1048576: true; the input reads as it did. -/
def fnSatelliteOfNextUptoRow : OpenClaim := { program := "ytpambamjcdohfaa", sum := "9d45871587a8c6b7bb885f8f60be4a67bb434f368aa3e00db70ded3cff0ba2c8", func := "loop.example/satelliteclock/laws.FnSatelliteOfNext", spec := "fnSatelliteOfNext", apart := false, narrowed := true }
def FnSatelliteOfNextUptoSaid : Prop := fnSatelliteOfNextUptoRow.holds Try.pinned (OpenSpec.upto fnSatelliteOfNextSpec)

/-- 'laws.FnCivilOfSatellite', WHERE WHAT IT READS IS OF BULK AT MOST 1048576: true; the input reads as it did. -/
def fnCivilOfSatelliteUptoRow : OpenClaim := { program := "ytpambamjcdohfaa", sum := "9d45871587a8c6b7bb885f8f60be4a67bb434f368aa3e00db70ded3cff0ba2c8", func := "loop.example/satelliteclock/laws.FnCivilOfSatellite", spec := "fnCivilOfSatellite", apart := false, narrowed := true }
def FnCivilOfSatelliteUptoSaid : Prop := fnCivilOfSatelliteUptoRow.holds Try.pinned (OpenSpec.upto fnCivilOfSatelliteSpec)

/-- 'laws.FnSatelliteOf', WHERE WHAT IT READS IS OF BULK AT MOST 1048576: true; the input reads as it did. -/
def fnSatelliteOfUptoRow : OpenClaim := { program := "ytpambamjcdohfaa", sum := "9d45871587a8c6b7bb885f8f60be4a67bb434f368aa3e00db70ded3cff0ba2c8", func := "loop.example/satelliteclock/laws.FnSatelliteOf", spec := "fnSatelliteOf", apart := false, narrowed := true }
def FnSatelliteOfUptoSaid : Prop := fnSatelliteOfUptoRow.holds Try.pinned (OpenSpec.upto fnSatelliteOfSpec)

end Rows
end Go.Proofs.Ytpambamjcdohfaa
