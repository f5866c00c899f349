/-
  No cell of these rows narrows 'for every input' (looked for: loops, veiled, ifaces, maps, wideKeys, modest, calm, conditions, laid).
  DERIVED. THE GIVEN ROWS OF THIS SEAT. 9 by the template 'for every input the law returns true; each argument reads behind the call as it read before'; 0 by the template 'total and deterministic' (their statements: YtnmhcndodogjbaaTotals.lean).
  GIVEN WITH THE SEED: the statements are not yours to turn. If you find one false, say at which input.
  Laid BY PROGRAM, IN A SANDBOX (cutbox-rows.mjs): the forced cells as the released guide's own fill.sh prints them over the translation 62df48c290f5d8c2… (all of the seat's roots in one cut). By AI agents, Wed Nov 11 2026. No macro, syntax, notation, axiom, sorry.
-/
import Derived.Test.YtnmhcndodogjbaaChecked
import GoSem.Claim
import GoSem.ClaimJoined
import GoSem.ClaimMapViews
import Derived.JoinedTies
import Derived.KernelRfl
namespace Go.Proofs.Ytnmhcndodogjbaa
/- THE CELL 'sum', in the pinned program and in every row, IS THE sha256 OF THE DUMP (.gsa) THAT YtnmhcndodogjbaaProg.lean LOADS. Nothing in Lean hashes anything: it is a label: what it is worth is what the hold of that sum in a sandbox is worth. -/
noncomputable def Try.pinned : Pinned := { name := "ytnmhcndodogjbaa", sum := "62df48c290f5d8c2f87ad75eed1090551d6a5dda9a24638ea9b6e789723f9d8a", checked := Try.checked }
namespace Rows
def none {H : Type} : Left H := { results := [], args := [] }

/-- 'laws.FnExactValidSpans': WHATEVER THE INPUT: true; the input reads as it did. -/
def fnExactValidSpansSpec : ChangeSpec := { name := "fnExactValidSpans", fn := fun _ => fun
  | [d] => { results := [.lit (.bool true)], args := [d] }
  | _ => none }
def fnExactValidSpansRow : OpenClaim := { program := "ytnmhcndodogjbaa", sum := "62df48c290f5d8c2f87ad75eed1090551d6a5dda9a24638ea9b6e789723f9d8a", func := "loop.example/satelliteclock/laws.FnExactValidSpans", spec := "fnExactValidSpans", unfollowed := true, recurses := true, apart := false }
def FnExactValidSpansSaid : Prop := fnExactValidSpansRow.holds Try.pinned (OpenSpec.ofChange fnExactValidSpansSpec)

/-- ITS FALSE NEIGHBOUR: 'it returns false'. Refute it at one input. -/
def fnExactValidSpansWrong : ChangeSpec := { name := "fnExactValidSpans", fn := fun _ => fun
  | [d] => { results := [.lit (.bool false)], args := [d] }
  | _ => none }
def FnExactValidSpansWrongFalsely : Prop := fnExactValidSpansRow.holds Try.pinned (OpenSpec.ofChange fnExactValidSpansWrong)

/-- 'laws.FnValidSpans': WHATEVER THE INPUT: true; the input reads as it did. -/
def fnValidSpansSpec : ChangeSpec := { name := "fnValidSpans", fn := fun _ => fun
  | [d] => { results := [.lit (.bool true)], args := [d] }
  | _ => none }
def fnValidSpansRow : OpenClaim := { program := "ytnmhcndodogjbaa", sum := "62df48c290f5d8c2f87ad75eed1090551d6a5dda9a24638ea9b6e789723f9d8a", func := "loop.example/satelliteclock/laws.FnValidSpans", spec := "fnValidSpans", unfollowed := true, recurses := true, apart := false }
def FnValidSpansSaid : Prop := fnValidSpansRow.holds Try.pinned (OpenSpec.ofChange fnValidSpansSpec)

/-- ITS FALSE NEIGHBOUR: 'it returns false'. Refute it at one input. -/
def fnValidSpansWrong : ChangeSpec := { name := "fnValidSpans", fn := fun _ => fun
  | [d] => { results := [.lit (.bool false)], args := [d] }
  | _ => none }
def FnValidSpansWrongFalsely : Prop := fnValidSpansRow.holds Try.pinned (OpenSpec.ofChange fnValidSpansWrong)

/-- 'laws.FnExactVotesFor': WHATEVER THE INPUT: true; the input reads as it did. -/
def fnExactVotesForSpec : ChangeSpec := { name := "fnExactVotesFor", fn := fun _ => fun
  | [d1, d2] => { results := [.lit (.bool true)], args := [d1, d2] }
  | _ => none }
def fnExactVotesForRow : OpenClaim := { program := "ytnmhcndodogjbaa", sum := "62df48c290f5d8c2f87ad75eed1090551d6a5dda9a24638ea9b6e789723f9d8a", func := "loop.example/satelliteclock/laws.FnExactVotesFor", spec := "fnExactVotesFor", unfollowed := true, recurses := true, apart := false }
def FnExactVotesForSaid : Prop := fnExactVotesForRow.holds Try.pinned (OpenSpec.ofChange fnExactVotesForSpec)

/-- ITS FALSE NEIGHBOUR: 'it returns false'. Refute it at one input. -/
def fnExactVotesForWrong : ChangeSpec := { name := "fnExactVotesFor", fn := fun _ => fun
  | [d1, d2] => { results := [.lit (.bool false)], args := [d1, d2] }
  | _ => none }
def FnExactVotesForWrongFalsely : Prop := fnExactVotesForRow.holds Try.pinned (OpenSpec.ofChange fnExactVotesForWrong)

/-- 'laws.FnVotesFor': WHATEVER THE INPUT: true; the input reads as it did. -/
def fnVotesForSpec : ChangeSpec := { name := "fnVotesFor", fn := fun _ => fun
  | [d] => { results := [.lit (.bool true)], args := [d] }
  | _ => none }
def fnVotesForRow : OpenClaim := { program := "ytnmhcndodogjbaa", sum := "62df48c290f5d8c2f87ad75eed1090551d6a5dda9a24638ea9b6e789723f9d8a", func := "loop.example/satelliteclock/laws.FnVotesFor", spec := "fnVotesFor", unfollowed := true, recurses := true, apart := false }
def FnVotesForSaid : Prop := fnVotesForRow.holds Try.pinned (OpenSpec.ofChange fnVotesForSpec)

/-- ITS FALSE NEIGHBOUR: 'it returns false'. Refute it at one input. -/
def fnVotesForWrong : ChangeSpec := { name := "fnVotesFor", fn := fun _ => fun
  | [d] => { results := [.lit (.bool false)], args := [d] }
  | _ => none }
def FnVotesForWrongFalsely : Prop := fnVotesForRow.holds Try.pinned (OpenSpec.ofChange fnVotesForWrong)

/-- 'laws.FnVotesForAll': WHATEVER THE INPUT: true; the input reads as it did. -/
def fnVotesForAllSpec : ChangeSpec := { name := "fnVotesForAll", fn := fun _ => fun
  | [d] => { results := [.lit (.bool true)], args := [d] }
  | _ => none }
def fnVotesForAllRow : OpenClaim := { program := "ytnmhcndodogjbaa", sum := "62df48c290f5d8c2f87ad75eed1090551d6a5dda9a24638ea9b6e789723f9d8a", func := "loop.example/satelliteclock/laws.FnVotesForAll", spec := "fnVotesForAll", unfollowed := true, recurses := true, apart := false }
def FnVotesForAllSaid : Prop := fnVotesForAllRow.holds Try.pinned (OpenSpec.ofChange fnVotesForAllSpec)

/-- ITS FALSE NEIGHBOUR: 'it returns false'. Refute it at one input. -/
def fnVotesForAllWrong : ChangeSpec := { name := "fnVotesForAll", fn := fun _ => fun
  | [d] => { results := [.lit (.bool false)], args := [d] }
  | _ => none }
def FnVotesForAllWrongFalsely : Prop := fnVotesForAllRow.holds Try.pinned (OpenSpec.ofChange fnVotesForAllWrong)

/-- 'laws.FnExactMostVotes': WHATEVER THE INPUT: true; the input reads as it did. -/
def fnExactMostVotesSpec : ChangeSpec := { name := "fnExactMostVotes", fn := fun _ => fun
  | [d] => { results := [.lit (.bool true)], args := [d] }
  | _ => none }
def fnExactMostVotesRow : OpenClaim := { program := "ytnmhcndodogjbaa", sum := "62df48c290f5d8c2f87ad75eed1090551d6a5dda9a24638ea9b6e789723f9d8a", func := "loop.example/satelliteclock/laws.FnExactMostVotes", spec := "fnExactMostVotes", unfollowed := true, recurses := true, apart := false }
def FnExactMostVotesSaid : Prop := fnExactMostVotesRow.holds Try.pinned (OpenSpec.ofChange fnExactMostVotesSpec)

/-- ITS FALSE NEIGHBOUR: 'it returns false'. Refute it at one input. -/
def fnExactMostVotesWrong : ChangeSpec := { name := "fnExactMostVotes", fn := fun _ => fun
  | [d] => { results := [.lit (.bool false)], args := [d] }
  | _ => none }
def FnExactMostVotesWrongFalsely : Prop := fnExactMostVotesRow.holds Try.pinned (OpenSpec.ofChange fnExactMostVotesWrong)

/-- 'laws.FnMostVotesAdd': WHATEVER THE INPUT: true; the input reads as it did. -/
def fnMostVotesAddSpec : ChangeSpec := { name := "fnMostVotesAdd", fn := fun _ => fun
  | [d] => { results := [.lit (.bool true)], args := [d] }
  | _ => none }
def fnMostVotesAddRow : OpenClaim := { program := "ytnmhcndodogjbaa", sum := "62df48c290f5d8c2f87ad75eed1090551d6a5dda9a24638ea9b6e789723f9d8a", func := "loop.example/satelliteclock/laws.FnMostVotesAdd", spec := "fnMostVotesAdd", unfollowed := true, recurses := true, apart := false }
def FnMostVotesAddSaid : Prop := fnMostVotesAddRow.holds Try.pinned (OpenSpec.ofChange fnMostVotesAddSpec)

/-- ITS FALSE NEIGHBOUR: 'it returns false'. Refute it at one input. -/
def fnMostVotesAddWrong : ChangeSpec := { name := "fnMostVotesAdd", fn := fun _ => fun
  | [d] => { results := [.lit (.bool false)], args := [d] }
  | _ => none }
def FnMostVotesAddWrongFalsely : Prop := fnMostVotesAddRow.holds Try.pinned (OpenSpec.ofChange fnMostVotesAddWrong)

/-- 'laws.FnVotesForEnds': WHATEVER THE INPUT: true; the input reads as it did. -/
def fnVotesForEndsSpec : ChangeSpec := { name := "fnVotesForEnds", fn := fun _ => fun
  | [d] => { results := [.lit (.bool true)], args := [d] }
  | _ => none }
def fnVotesForEndsRow : OpenClaim := { program := "ytnmhcndodogjbaa", sum := "62df48c290f5d8c2f87ad75eed1090551d6a5dda9a24638ea9b6e789723f9d8a", func := "loop.example/satelliteclock/laws.FnVotesForEnds", spec := "fnVotesForEnds", unfollowed := true, recurses := true, apart := false }
def FnVotesForEndsSaid : Prop := fnVotesForEndsRow.holds Try.pinned (OpenSpec.ofChange fnVotesForEndsSpec)

/-- ITS FALSE NEIGHBOUR: 'it returns false'. Refute it at one input. -/
def fnVotesForEndsWrong : ChangeSpec := { name := "fnVotesForEnds", fn := fun _ => fun
  | [d] => { results := [.lit (.bool false)], args := [d] }
  | _ => none }
def FnVotesForEndsWrongFalsely : Prop := fnVotesForEndsRow.holds Try.pinned (OpenSpec.ofChange fnVotesForEndsWrong)

/-- 'laws.FnMostVotes': WHATEVER THE INPUT: true; the input reads as it did. -/
def fnMostVotesSpec : ChangeSpec := { name := "fnMostVotes", fn := fun _ => fun
  | [d] => { results := [.lit (.bool true)], args := [d] }
  | _ => none }
def fnMostVotesRow : OpenClaim := { program := "ytnmhcndodogjbaa", sum := "62df48c290f5d8c2f87ad75eed1090551d6a5dda9a24638ea9b6e789723f9d8a", func := "loop.example/satelliteclock/laws.FnMostVotes", spec := "fnMostVotes", unfollowed := true, recurses := true, apart := false }
def FnMostVotesSaid : Prop := fnMostVotesRow.holds Try.pinned (OpenSpec.ofChange fnMostVotesSpec)

/-- ITS FALSE NEIGHBOUR: 'it returns false'. Refute it at one input. -/
def fnMostVotesWrong : ChangeSpec := { name := "fnMostVotes", fn := fun _ => fun
  | [d] => { results := [.lit (.bool false)], args := [d] }
  | _ => none }
def FnMostVotesWrongFalsely : Prop := fnMostVotesRow.holds Try.pinned (OpenSpec.ofChange fnMostVotesWrong)

/- THE SECOND FORM. 'bulk': how many values and letters a reading holds, each counted each time it is reached (what is shared counts as often as it is met; a slice's spare places count too). A statement '..UptoSaid' is the law's where the arguments, and the package variables that the reading takes, are together of bulk at most 1048576: NARROWER than '..Said'. Prove '..Said' where nothing that the law and all that it calls make is longer than what came in: it says more and counts as full. Else prove '..UptoSaid'. A law counts once. -/
mutual
def uptoBulk {H : Type} : DataW H → Nat
  | .lit (.string bytes) => bytes.length + 1
  | .lit _ => 1
  | .nil => 1
  | .ptr d => uptoBulk d + 1
  | .slice elems spare => uptoBulkAll elems + uptoBulkAll spare + 1
  | .agg parts => uptoBulkAll parts + 1
  | .iface _ d => uptoBulk d + 1
  | .map entries => uptoBulkEntries entries + 1
  | .held _ => 1
def uptoBulkAll {H : Type} : List (DataW H) → Nat
  | [] => 0
  | d :: r => uptoBulk d + uptoBulkAll r
def uptoBulkEntries {H : Type} : List (Lit × DataW H) → Nat
  | [] => 0
  | x :: r => uptoBulkEntry x + uptoBulkEntries r
def uptoBulkEntry {H : Type} : Lit × DataW H → Nat
  | (.string bytes, d) => bytes.length + uptoBulk d + 1
  | (_, d) => uptoBulk d + 1
 end
def uptoSmall : (H : Type) → List (DataW H) → Bool := fun _ ds => decide (uptoBulkAll ds ≤ 1048576)
def OpenSpec.upto (s : _root_.Go.ChangeSpec) : _root_.Go.OpenSpec := { _root_.Go.OpenSpec.ofChange s with cond := some uptoSmall }

/-- 'laws.FnExactValidSpans', WHERE WHAT IT READS IS OF BULK AT MOST 1048576: true; the input reads as it did. -/
def fnExactValidSpansUptoRow : OpenClaim := { program := "ytnmhcndodogjbaa", sum := "62df48c290f5d8c2f87ad75eed1090551d6a5dda9a24638ea9b6e789723f9d8a", func := "loop.example/satelliteclock/laws.FnExactValidSpans", spec := "fnExactValidSpans", unfollowed := true, recurses := true, apart := false, narrowed := true }
def FnExactValidSpansUptoSaid : Prop := fnExactValidSpansUptoRow.holds Try.pinned (OpenSpec.upto fnExactValidSpansSpec)

/-- 'laws.FnValidSpans', WHERE WHAT IT READS IS OF BULK AT MOST 1048576: true; the input reads as it did. -/
def fnValidSpansUptoRow : OpenClaim := { program := "ytnmhcndodogjbaa", sum := "62df48c290f5d8c2f87ad75eed1090551d6a5dda9a24638ea9b6e789723f9d8a", func := "loop.example/satelliteclock/laws.FnValidSpans", spec := "fnValidSpans", unfollowed := true, recurses := true, apart := false, narrowed := true }
def FnValidSpansUptoSaid : Prop := fnValidSpansUptoRow.holds Try.pinned (OpenSpec.upto fnValidSpansSpec)

/-- 'laws.FnExactVotesFor', WHERE WHAT IT READS IS OF BULK AT MOST 1048576: true; the input reads as it did. -/
def fnExactVotesForUptoRow : OpenClaim := { program := "ytnmhcndodogjbaa", sum := "62df48c290f5d8c2f87ad75eed1090551d6a5dda9a24638ea9b6e789723f9d8a", func := "loop.example/satelliteclock/laws.FnExactVotesFor", spec := "fnExactVotesFor", unfollowed := true, recurses := true, apart := false, narrowed := true }
def FnExactVotesForUptoSaid : Prop := fnExactVotesForUptoRow.holds Try.pinned (OpenSpec.upto fnExactVotesForSpec)

/-- 'laws.FnVotesFor', WHERE WHAT IT READS IS OF BULK AT MOST 1048576: true; the input reads as it did. -/
def fnVotesForUptoRow : OpenClaim := { program := "ytnmhcndodogjbaa", sum := "62df48c290f5d8c2f87ad75eed1090551d6a5dda9a24638ea9b6e789723f9d8a", func := "loop.example/satelliteclock/laws.FnVotesFor", spec := "fnVotesFor", unfollowed := true, recurses := true, apart := false, narrowed := true }
def FnVotesForUptoSaid : Prop := fnVotesForUptoRow.holds Try.pinned (OpenSpec.upto fnVotesForSpec)

/-- 'laws.FnVotesForAll', WHERE WHAT IT READS IS OF BULK AT MOST 1048576: true; the input reads as it did. -/
def fnVotesForAllUptoRow : OpenClaim := { program := "ytnmhcndodogjbaa", sum := "62df48c290f5d8c2f87ad75eed1090551d6a5dda9a24638ea9b6e789723f9d8a", func := "loop.example/satelliteclock/laws.FnVotesForAll", spec := "fnVotesForAll", unfollowed := true, recurses := true, apart := false, narrowed := true }
def FnVotesForAllUptoSaid : Prop := fnVotesForAllUptoRow.holds Try.pinned (OpenSpec.upto fnVotesForAllSpec)

/-- 'laws.FnExactMostVotes', WHERE WHAT IT READS IS OF BULK AT MOST 1048576: true; the input reads as it did. -/
def fnExactMostVotesUptoRow : OpenClaim := { program := "ytnmhcndodogjbaa", sum := "62df48c290f5d8c2f87ad75eed1090551d6a5dda9a24638ea9b6e789723f9d8a", func := "loop.example/satelliteclock/laws.FnExactMostVotes", spec := "fnExactMostVotes", unfollowed := true, recurses := true, apart := false, narrowed := true }
def FnExactMostVotesUptoSaid : Prop := fnExactMostVotesUptoRow.holds Try.pinned (OpenSpec.upto fnExactMostVotesSpec)

/-- 'laws.FnMostVotesAdd', WHERE WHAT IT READS IS OF BULK AT MOST 1048576: true; the input reads as it did. -/
def fnMostVotesAddUptoRow : OpenClaim := { program := "ytnmhcndodogjbaa", sum := "62df48c290f5d8c2f87ad75eed1090551d6a5dda9a24638ea9b6e789723f9d8a", func := "loop.example/satelliteclock/laws.FnMostVotesAdd", spec := "fnMostVotesAdd", unfollowed := true, recurses := true, apart := false, narrowed := true }
def FnMostVotesAddUptoSaid : Prop := fnMostVotesAddUptoRow.holds Try.pinned (OpenSpec.upto fnMostVotesAddSpec)

/-- 'laws.FnVotesForEnds', WHERE WHAT IT READS IS OF BULK AT MOST 1048576: true; the input reads as it did. -/
def fnVotesForEndsUptoRow : OpenClaim := { program := "ytnmhcndodogjbaa", sum := "62df48c290f5d8c2f87ad75eed1090551d6a5dda9a24638ea9b6e789723f9d8a", func := "loop.example/satelliteclock/laws.FnVotesForEnds", spec := "fnVotesForEnds", unfollowed := true, recurses := true, apart := false, narrowed := true }
def FnVotesForEndsUptoSaid : Prop := fnVotesForEndsUptoRow.holds Try.pinned (OpenSpec.upto fnVotesForEndsSpec)

/-- 'laws.FnMostVotes', WHERE WHAT IT READS IS OF BULK AT MOST 1048576: true; the input reads as it did. -/
def fnMostVotesUptoRow : OpenClaim := { program := "ytnmhcndodogjbaa", sum := "62df48c290f5d8c2f87ad75eed1090551d6a5dda9a24638ea9b6e789723f9d8a", func := "loop.example/satelliteclock/laws.FnMostVotes", spec := "fnMostVotes", unfollowed := true, recurses := true, apart := false, narrowed := true }
def FnMostVotesUptoSaid : Prop := fnMostVotesUptoRow.holds Try.pinned (OpenSpec.upto fnMostVotesSpec)

end Rows
end Go.Proofs.Ytnmhcndodogjbaa
