/-
  No cell of these rows narrows 'for every input' (looked for: loops, veiled, ifaces, maps, wideKeys, modest, calm, conditions, laid).
  DERIVED. THE GIVEN ROWS OF THIS SEAT. 8 by the template 'for every input the law returns true; each argument reads behind the call as it read before'; 0 by the template 'total and deterministic' (their statements: YtkmklifflghojaaTotals.lean).
  GIVEN WITH THE SEED: the statements are not yours to turn. If you find one false, say at which input.
  Laid BY PROGRAM, IN A SANDBOX (cutbox-rows.mjs): the forced cells as the released guide's own fill.sh prints them over the translation 6a20819cb228f017… (all of the seat's roots in one cut). By AI agents, Wed Nov 11 2026. No macro, syntax, notation, axiom, sorry.
-/
import Derived.Test.YtkmklifflghojaaChecked
import GoSem.Claim
import GoSem.ClaimJoined
import GoSem.ClaimMapViews
import Derived.JoinedTies
import Derived.KernelRfl
namespace Go.Proofs.Ytkmklifflghojaa
/- THE CELL 'sum', in the pinned program and in every row, IS THE sha256 OF THE DUMP (.gsa) THAT YtkmklifflghojaaProg.lean LOADS. Nothing in Lean hashes anything: it is a label: what it is worth is what the hold of that sum in a sandbox is worth. -/
noncomputable def Try.pinned : Pinned := { name := "ytkmklifflghojaa", sum := "6a20819cb228f017432a989b2716aaca7e972acc12914963bc20c595b170eb67", checked := Try.checked }
namespace Rows
def none {H : Type} : Left H := { results := [], args := [] }

/-- 'laws.FnWithoutSpikesMore': WHATEVER THE INPUT: true; the input reads as it did. -/
def fnWithoutSpikesMoreSpec : ChangeSpec := { name := "fnWithoutSpikesMore", fn := fun _ => fun
  | [d] => { results := [.lit (.bool true)], args := [d] }
  | _ => none }
def fnWithoutSpikesMoreRow : OpenClaim := { program := "ytkmklifflghojaa", sum := "6a20819cb228f017432a989b2716aaca7e972acc12914963bc20c595b170eb67", func := "loop.example/satelliteclock/laws.FnWithoutSpikesMore", spec := "fnWithoutSpikesMore", unfollowed := true, recurses := true, apart := false }
def FnWithoutSpikesMoreSaid : Prop := fnWithoutSpikesMoreRow.holds Try.pinned (OpenSpec.ofChange fnWithoutSpikesMoreSpec)

/-- ITS FALSE NEIGHBOUR: 'it returns false'. Refute it at one input. -/
def fnWithoutSpikesMoreWrong : ChangeSpec := { name := "fnWithoutSpikesMore", fn := fun _ => fun
  | [d] => { results := [.lit (.bool false)], args := [d] }
  | _ => none }
def FnWithoutSpikesMoreWrongFalsely : Prop := fnWithoutSpikesMoreRow.holds Try.pinned (OpenSpec.ofChange fnWithoutSpikesMoreWrong)

/-- 'laws.FnWithoutSpikes': WHATEVER THE INPUT: true; the input reads as it did. -/
def fnWithoutSpikesSpec : ChangeSpec := { name := "fnWithoutSpikes", fn := fun _ => fun
  | [d] => { results := [.lit (.bool true)], args := [d] }
  | _ => none }
def fnWithoutSpikesRow : OpenClaim := { program := "ytkmklifflghojaa", sum := "6a20819cb228f017432a989b2716aaca7e972acc12914963bc20c595b170eb67", func := "loop.example/satelliteclock/laws.FnWithoutSpikes", spec := "fnWithoutSpikes", unfollowed := true, recurses := true, apart := false }
def FnWithoutSpikesSaid : Prop := fnWithoutSpikesRow.holds Try.pinned (OpenSpec.ofChange fnWithoutSpikesSpec)

/-- ITS FALSE NEIGHBOUR: 'it returns false'. Refute it at one input. -/
def fnWithoutSpikesWrong : ChangeSpec := { name := "fnWithoutSpikes", fn := fun _ => fun
  | [d] => { results := [.lit (.bool false)], args := [d] }
  | _ => none }
def FnWithoutSpikesWrongFalsely : Prop := fnWithoutSpikesRow.holds Try.pinned (OpenSpec.ofChange fnWithoutSpikesWrong)

/-- 'laws.FnExactWithoutSpikes': WHATEVER THE INPUT: true; the input reads as it did. -/
def fnExactWithoutSpikesSpec : ChangeSpec := { name := "fnExactWithoutSpikes", fn := fun _ => fun
  | [d1, d2] => { results := [.lit (.bool true)], args := [d1, d2] }
  | _ => none }
def fnExactWithoutSpikesRow : OpenClaim := { program := "ytkmklifflghojaa", sum := "6a20819cb228f017432a989b2716aaca7e972acc12914963bc20c595b170eb67", func := "loop.example/satelliteclock/laws.FnExactWithoutSpikes", spec := "fnExactWithoutSpikes", unfollowed := true, recurses := true, apart := false }
def FnExactWithoutSpikesSaid : Prop := fnExactWithoutSpikesRow.holds Try.pinned (OpenSpec.ofChange fnExactWithoutSpikesSpec)

/-- ITS FALSE NEIGHBOUR: 'it returns false'. Refute it at one input. -/
def fnExactWithoutSpikesWrong : ChangeSpec := { name := "fnExactWithoutSpikes", fn := fun _ => fun
  | [d1, d2] => { results := [.lit (.bool false)], args := [d1, d2] }
  | _ => none }
def FnExactWithoutSpikesWrongFalsely : Prop := fnExactWithoutSpikesRow.holds Try.pinned (OpenSpec.ofChange fnExactWithoutSpikesWrong)

/-- 'laws.FnExactMedianOffset': WHATEVER THE INPUT: true; the input reads as it did. -/
def fnExactMedianOffsetSpec : ChangeSpec := { name := "fnExactMedianOffset", fn := fun _ => fun
  | [d] => { results := [.lit (.bool true)], args := [d] }
  | _ => none }
def fnExactMedianOffsetRow : OpenClaim := { program := "ytkmklifflghojaa", sum := "6a20819cb228f017432a989b2716aaca7e972acc12914963bc20c595b170eb67", func := "loop.example/satelliteclock/laws.FnExactMedianOffset", spec := "fnExactMedianOffset", recurses := true, apart := false }
def FnExactMedianOffsetSaid : Prop := fnExactMedianOffsetRow.holds Try.pinned (OpenSpec.ofChange fnExactMedianOffsetSpec)

/-- ITS FALSE NEIGHBOUR: 'it returns false'. Refute it at one input. -/
def fnExactMedianOffsetWrong : ChangeSpec := { name := "fnExactMedianOffset", fn := fun _ => fun
  | [d] => { results := [.lit (.bool false)], args := [d] }
  | _ => none }
def FnExactMedianOffsetWrongFalsely : Prop := fnExactMedianOffsetRow.holds Try.pinned (OpenSpec.ofChange fnExactMedianOffsetWrong)

/-- 'laws.FnMedianOffset': WHATEVER THE INPUT: true; the input reads as it did. -/
def fnMedianOffsetSpec : ChangeSpec := { name := "fnMedianOffset", fn := fun _ => fun
  | [d] => { results := [.lit (.bool true)], args := [d] }
  | _ => none }
def fnMedianOffsetRow : OpenClaim := { program := "ytkmklifflghojaa", sum := "6a20819cb228f017432a989b2716aaca7e972acc12914963bc20c595b170eb67", func := "loop.example/satelliteclock/laws.FnMedianOffset", spec := "fnMedianOffset", recurses := true, apart := false }
def FnMedianOffsetSaid : Prop := fnMedianOffsetRow.holds Try.pinned (OpenSpec.ofChange fnMedianOffsetSpec)

/-- ITS FALSE NEIGHBOUR: 'it returns false'. Refute it at one input. -/
def fnMedianOffsetWrong : ChangeSpec := { name := "fnMedianOffset", fn := fun _ => fun
  | [d] => { results := [.lit (.bool false)], args := [d] }
  | _ => none }
def FnMedianOffsetWrongFalsely : Prop := fnMedianOffsetRow.holds Try.pinned (OpenSpec.ofChange fnMedianOffsetWrong)

/-- 'laws.FnMedianOffsetOne': WHATEVER THE INPUT: true; the input reads as it did. -/
def fnMedianOffsetOneSpec : ChangeSpec := { name := "fnMedianOffsetOne", fn := fun _ => fun
  | [d] => { results := [.lit (.bool true)], args := [d] }
  | _ => none }
def fnMedianOffsetOneRow : OpenClaim := { program := "ytkmklifflghojaa", sum := "6a20819cb228f017432a989b2716aaca7e972acc12914963bc20c595b170eb67", func := "loop.example/satelliteclock/laws.FnMedianOffsetOne", spec := "fnMedianOffsetOne", recurses := true, apart := false }
def FnMedianOffsetOneSaid : Prop := fnMedianOffsetOneRow.holds Try.pinned (OpenSpec.ofChange fnMedianOffsetOneSpec)

/-- ITS FALSE NEIGHBOUR: 'it returns false'. Refute it at one input. -/
def fnMedianOffsetOneWrong : ChangeSpec := { name := "fnMedianOffsetOne", fn := fun _ => fun
  | [d] => { results := [.lit (.bool false)], args := [d] }
  | _ => none }
def FnMedianOffsetOneWrongFalsely : Prop := fnMedianOffsetOneRow.holds Try.pinned (OpenSpec.ofChange fnMedianOffsetOneWrong)

/-- 'laws.FnJitterOfShift': WHATEVER THE INPUT: true; the input reads as it did. -/
def fnJitterOfShiftSpec : ChangeSpec := { name := "fnJitterOfShift", fn := fun _ => fun
  | [d] => { results := [.lit (.bool true)], args := [d] }
  | _ => none }
def fnJitterOfShiftRow : OpenClaim := { program := "ytkmklifflghojaa", sum := "6a20819cb228f017432a989b2716aaca7e972acc12914963bc20c595b170eb67", func := "loop.example/satelliteclock/laws.FnJitterOfShift", spec := "fnJitterOfShift", recurses := true, apart := false }
def FnJitterOfShiftSaid : Prop := fnJitterOfShiftRow.holds Try.pinned (OpenSpec.ofChange fnJitterOfShiftSpec)

/-- ITS FALSE NEIGHBOUR: 'it returns false'. Refute it at one input. -/
def fnJitterOfShiftWrong : ChangeSpec := { name := "fnJitterOfShift", fn := fun _ => fun
  | [d] => { results := [.lit (.bool false)], args := [d] }
  | _ => none }
def FnJitterOfShiftWrongFalsely : Prop := fnJitterOfShiftRow.holds Try.pinned (OpenSpec.ofChange fnJitterOfShiftWrong)

/-- 'laws.FnBestSampleJitter': WHATEVER THE INPUT: true; the input reads as it did. -/
def fnBestSampleJitterSpec : ChangeSpec := { name := "fnBestSampleJitter", fn := fun _ => fun
  | [d] => { results := [.lit (.bool true)], args := [d] }
  | _ => none }
def fnBestSampleJitterRow : OpenClaim := { program := "ytkmklifflghojaa", sum := "6a20819cb228f017432a989b2716aaca7e972acc12914963bc20c595b170eb67", func := "loop.example/satelliteclock/laws.FnBestSampleJitter", spec := "fnBestSampleJitter", unfollowed := true, recurses := true, apart := false }
def FnBestSampleJitterSaid : Prop := fnBestSampleJitterRow.holds Try.pinned (OpenSpec.ofChange fnBestSampleJitterSpec)

/-- ITS FALSE NEIGHBOUR: 'it returns false'. Refute it at one input. -/
def fnBestSampleJitterWrong : ChangeSpec := { name := "fnBestSampleJitter", fn := fun _ => fun
  | [d] => { results := [.lit (.bool false)], args := [d] }
  | _ => none }
def FnBestSampleJitterWrongFalsely : Prop := fnBestSampleJitterRow.holds Try.pinned (OpenSpec.ofChange fnBestSampleJitterWrong)

/- THE SECOND FORM. 'bulk': how many values and letters a reading holds, each counted each time it is reached (what is shared counts as often as it is met; a slice's spare places count too). A statement '..UptoSaid' is the law's where the arguments, and the package variables that the reading takes, are together of bulk at most 1048576: NARROWER than '..Said'. Prove '..Said' where nothing that the law and all that it calls make is longer than what came in: it says more and counts as full. Else prove '..UptoSaid'. A law counts once. -/
mutual
def uptoBulk {H : Type} : DataW H → Nat
  | .lit (.string bytes) => bytes.length + 1
  | .lit _ => 1
  | .nil => 1
  | .ptr d => uptoBulk d + 1
  | .slice elems spare => uptoBulkAll elems + uptoBulkAll spare + 1
  | .agg parts => uptoBulkAll parts + 1
  | .iface _ d => uptoBulk d + 1
  | .map entries => uptoBulkEntries entries + 1
  | .held _ => 1
def uptoBulkAll {H : Type} : List (DataW H) → Nat
  | [] => 0
  | d :: r => uptoBulk d + uptoBulkAll r
def uptoBulkEntries {H : Type} : List (Lit × DataW H) → Nat
  | [] => 0
  | x :: r => uptoBulkEntry x + uptoBulkEntries r
def uptoBulkEntry {H : Type} : Lit × DataW H → Nat
  | (.string bytes, d) => bytes.length + uptoBulk d + 1
  | (_, d) => uptoBulk d + 1
 end
def uptoSmall : (H : Type) → List (DataW H) → Bool := fun _ ds => decide (uptoBulkAll ds ≤ 1048576)
def OpenSpec.upto (s : _root_.Go.ChangeSpec) : _root_.Go.OpenSpec := { _root_.Go.OpenSpec.ofChange s with cond := some uptoSmall }

/-- 'laws.FnWithoutSpikesMore', WHERE WHAT IT READS IS OF BULK AT MOST 1048576: true; the input reads as it did. -/
def fnWithoutSpikesMoreUptoRow : OpenClaim := { program := "ytkmklifflghojaa", sum := "6a20819cb228f017432a989b2716aaca7e972acc12914963bc20c595b170eb67", func := "loop.example/satelliteclock/laws.FnWithoutSpikesMore", spec := "fnWithoutSpikesMore", unfollowed := true, recurses := true, apart := false, narrowed := true }
def FnWithoutSpikesMoreUptoSaid : Prop := fnWithoutSpikesMoreUptoRow.holds Try.pinned (OpenSpec.upto fnWithoutSpikesMoreSpec)

/-- 'laws.FnWithoutSpikes', WHERE WHAT IT READS IS OF BULK AT MOST 1048576: true; the input reads as it did. -/
def fnWithoutSpikesUptoRow : OpenClaim := { program := "ytkmklifflghojaa", sum := "6a20819cb228f017432a989b2716aaca7e972acc12914963bc20c595b170eb67", func := "loop.example/satelliteclock/laws.FnWithoutSpikes", spec := "fnWithoutSpikes", unfollowed := true, recurses := true, apart := false, narrowed := true }
def FnWithoutSpikesUptoSaid : Prop := fnWithoutSpikesUptoRow.holds Try.pinned (OpenSpec.upto fnWithoutSpikesSpec)

/-- 'laws.FnExactWithoutSpikes', WHERE WHAT IT READS IS OF BULK AT MOST 1048576: true; the input reads as it did. -/
def fnExactWithoutSpikesUptoRow : OpenClaim := { program := "ytkmklifflghojaa", sum := "6a20819cb228f017432a989b2716aaca7e972acc12914963bc20c595b170eb67", func := "loop.example/satelliteclock/laws.FnExactWithoutSpikes", spec := "fnExactWithoutSpikes", unfollowed := true, recurses := true, apart := false, narrowed := true }
def FnExactWithoutSpikesUptoSaid : Prop := fnExactWithoutSpikesUptoRow.holds Try.pinned (OpenSpec.upto fnExactWithoutSpikesSpec)

/-- 'laws.FnExactMedianOffset', WHERE WHAT IT READS IS OF BULK AT MOST 1048576: true; the input reads as it did. -/
def fnExactMedianOffsetUptoRow : OpenClaim := { program := "ytkmklifflghojaa", sum := "6a20819cb228f017432a989b2716aaca7e972acc12914963bc20c595b170eb67", func := "loop.example/satelliteclock/laws.FnExactMedianOffset", spec := "fnExactMedianOffset", recurses := true, apart := false, narrowed := true }
def FnExactMedianOffsetUptoSaid : Prop := fnExactMedianOffsetUptoRow.holds Try.pinned (OpenSpec.upto fnExactMedianOffsetSpec)

/-- 'laws.FnMedianOffset', WHERE WHAT IT READS IS OF BULK AT MOST 1048576: true; the input reads as it did. -/
def fnMedianOffsetUptoRow : OpenClaim := { program := "ytkmklifflghojaa", sum := "6a20819cb228f017432a989b2716aaca7e972acc12914963bc20c595b170eb67", func := "loop.example/satelliteclock/laws.FnMedianOffset", spec := "fnMedianOffset", recurses := true, apart := false, narrowed := true }
def FnMedianOffsetUptoSaid : Prop := fnMedianOffsetUptoRow.holds Try.pinned (OpenSpec.upto fnMedianOffsetSpec)

/-- 'laws.FnMedianOffsetOne', WHERE WHAT IT READS IS OF BULK AT MOST 1048576: true; the input reads as it did. -/
def fnMedianOffsetOneUptoRow : OpenClaim := { program := "ytkmklifflghojaa", sum := "6a20819cb228f017432a989b2716aaca7e972acc12914963bc20c595b170eb67", func := "loop.example/satelliteclock/laws.FnMedianOffsetOne", spec := "fnMedianOffsetOne", recurses := true, apart := false, narrowed := true }
def FnMedianOffsetOneUptoSaid : Prop := fnMedianOffsetOneUptoRow.holds Try.pinned (OpenSpec.upto fnMedianOffsetOneSpec)

/-- 'laws.FnJitterOfShift', WHERE WHAT IT READS IS OF BULK AT MOST 1048576: true; the input reads as it did. -/
def fnJitterOfShiftUptoRow : OpenClaim := { program := "ytkmklifflghojaa", sum := "6a20819cb228f017432a989b2716aaca7e972acc12914963bc20c595b170eb67", func := "loop.example/satelliteclock/laws.FnJitterOfShift", spec := "fnJitterOfShift", recurses := true, apart := false, narrowed := true }
def FnJitterOfShiftUptoSaid : Prop := fnJitterOfShiftUptoRow.holds Try.pinned (OpenSpec.upto fnJitterOfShiftSpec)

/-- 'laws.FnBestSampleJitter', WHERE WHAT IT READS IS OF BULK AT MOST 1048576: true; the input reads as it did. -/
def fnBestSampleJitterUptoRow : OpenClaim := { program := "ytkmklifflghojaa", sum := "6a20819cb228f017432a989b2716aaca7e972acc12914963bc20c595b170eb67", func := "loop.example/satelliteclock/laws.FnBestSampleJitter", spec := "fnBestSampleJitter", unfollowed := true, recurses := true, apart := false, narrowed := true }
def FnBestSampleJitterUptoSaid : Prop := fnBestSampleJitterUptoRow.holds Try.pinned (OpenSpec.upto fnBestSampleJitterSpec)

end Rows
end Go.Proofs.Ytkmklifflghojaa
