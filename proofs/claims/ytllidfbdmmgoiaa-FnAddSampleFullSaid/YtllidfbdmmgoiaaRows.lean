/-
  No cell of these rows narrows 'for every input' (looked for: loops, veiled, ifaces, maps, wideKeys, modest, calm, conditions, laid).
  DERIVED. THE GIVEN ROWS OF THIS SEAT. 10 by the template 'for every input the law returns true; each argument reads behind the call as it read before'; 0 by the template 'total and deterministic' (their statements: YtllidfbdmmgoiaaTotals.lean).
  GIVEN WITH THE SEED: the statements are not yours to turn. If you find one false, say at which input.
  Laid BY PROGRAM, IN A SANDBOX (cutbox-rows.mjs): the forced cells as the released guide's own fill.sh prints them over the translation e0adfc95dc2962af… (all of the seat's roots in one cut). By AI agents, Wed Nov 11 2026. No macro, syntax, notation, axiom, sorry.
-/
import Derived.Test.YtllidfbdmmgoiaaChecked
import GoSem.Claim
import GoSem.ClaimJoined
import GoSem.ClaimMapViews
import Derived.JoinedTies
import Derived.KernelRfl
namespace Go.Proofs.Ytllidfbdmmgoiaa
/- THE CELL 'sum', in the pinned program and in every row, IS THE sha256 OF THE DUMP (.gsa) THAT YtllidfbdmmgoiaaProg.lean LOADS. Nothing in Lean hashes anything: it is a label: what it is worth is what the hold of that sum in a sandbox is worth. -/
noncomputable def Try.pinned : Pinned := { name := "ytllidfbdmmgoiaa", sum := "e0adfc95dc2962af415d9987601615911e2ebacfbd1bcc96adef24e99df297fc", checked := Try.checked }
namespace Rows
def none {H : Type} : Left H := { results := [], args := [] }

/-- 'laws.FnExactValidSamples': WHATEVER THE INPUT: true; the input reads as it did. -/
def fnExactValidSamplesSpec : ChangeSpec := { name := "fnExactValidSamples", fn := fun _ => fun
  | [d] => { results := [.lit (.bool true)], args := [d] }
  | _ => none }
def fnExactValidSamplesRow : OpenClaim := { program := "ytllidfbdmmgoiaa", sum := "e0adfc95dc2962af415d9987601615911e2ebacfbd1bcc96adef24e99df297fc", func := "loop.example/satelliteclock/laws.FnExactValidSamples", spec := "fnExactValidSamples", apart := false }
def FnExactValidSamplesSaid : Prop := fnExactValidSamplesRow.holds Try.pinned (OpenSpec.ofChange fnExactValidSamplesSpec)

/-- ITS FALSE NEIGHBOUR: 'it returns false'. Refute it at one input. -/
def fnExactValidSamplesWrong : ChangeSpec := { name := "fnExactValidSamples", fn := fun _ => fun
  | [d] => { results := [.lit (.bool false)], args := [d] }
  | _ => none }
def FnExactValidSamplesWrongFalsely : Prop := fnExactValidSamplesRow.holds Try.pinned (OpenSpec.ofChange fnExactValidSamplesWrong)

/-- 'laws.FnValidSamples': WHATEVER THE INPUT: true; the input reads as it did. -/
def fnValidSamplesSpec : ChangeSpec := { name := "fnValidSamples", fn := fun _ => fun
  | [d] => { results := [.lit (.bool true)], args := [d] }
  | _ => none }
def fnValidSamplesRow : OpenClaim := { program := "ytllidfbdmmgoiaa", sum := "e0adfc95dc2962af415d9987601615911e2ebacfbd1bcc96adef24e99df297fc", func := "loop.example/satelliteclock/laws.FnValidSamples", spec := "fnValidSamples", apart := false }
def FnValidSamplesSaid : Prop := fnValidSamplesRow.holds Try.pinned (OpenSpec.ofChange fnValidSamplesSpec)

/-- ITS FALSE NEIGHBOUR: 'it returns false'. Refute it at one input. -/
def fnValidSamplesWrong : ChangeSpec := { name := "fnValidSamples", fn := fun _ => fun
  | [d] => { results := [.lit (.bool false)], args := [d] }
  | _ => none }
def FnValidSamplesWrongFalsely : Prop := fnValidSamplesRow.holds Try.pinned (OpenSpec.ofChange fnValidSamplesWrong)

/-- 'laws.FnExactBestSample': WHATEVER THE INPUT: true; the input reads as it did. -/
def fnExactBestSampleSpec : ChangeSpec := { name := "fnExactBestSample", fn := fun _ => fun
  | [d] => { results := [.lit (.bool true)], args := [d] }
  | _ => none }
def fnExactBestSampleRow : OpenClaim := { program := "ytllidfbdmmgoiaa", sum := "e0adfc95dc2962af415d9987601615911e2ebacfbd1bcc96adef24e99df297fc", func := "loop.example/satelliteclock/laws.FnExactBestSample", spec := "fnExactBestSample", apart := false }
def FnExactBestSampleSaid : Prop := fnExactBestSampleRow.holds Try.pinned (OpenSpec.ofChange fnExactBestSampleSpec)

/-- ITS FALSE NEIGHBOUR: 'it returns false'. Refute it at one input. -/
def fnExactBestSampleWrong : ChangeSpec := { name := "fnExactBestSample", fn := fun _ => fun
  | [d] => { results := [.lit (.bool false)], args := [d] }
  | _ => none }
def FnExactBestSampleWrongFalsely : Prop := fnExactBestSampleRow.holds Try.pinned (OpenSpec.ofChange fnExactBestSampleWrong)

/-- 'laws.FnBestSample': WHATEVER THE INPUT: true; the input reads as it did. -/
def fnBestSampleSpec : ChangeSpec := { name := "fnBestSample", fn := fun _ => fun
  | [d] => { results := [.lit (.bool true)], args := [d] }
  | _ => none }
def fnBestSampleRow : OpenClaim := { program := "ytllidfbdmmgoiaa", sum := "e0adfc95dc2962af415d9987601615911e2ebacfbd1bcc96adef24e99df297fc", func := "loop.example/satelliteclock/laws.FnBestSample", spec := "fnBestSample", apart := false }
def FnBestSampleSaid : Prop := fnBestSampleRow.holds Try.pinned (OpenSpec.ofChange fnBestSampleSpec)

/-- ITS FALSE NEIGHBOUR: 'it returns false'. Refute it at one input. -/
def fnBestSampleWrong : ChangeSpec := { name := "fnBestSample", fn := fun _ => fun
  | [d] => { results := [.lit (.bool false)], args := [d] }
  | _ => none }
def FnBestSampleWrongFalsely : Prop := fnBestSampleRow.holds Try.pinned (OpenSpec.ofChange fnBestSampleWrong)

/-- 'laws.FnExactJitterOf': WHATEVER THE INPUT: true; the input reads as it did. -/
def fnExactJitterOfSpec : ChangeSpec := { name := "fnExactJitterOf", fn := fun _ => fun
  | [d] => { results := [.lit (.bool true)], args := [d] }
  | _ => none }
def fnExactJitterOfRow : OpenClaim := { program := "ytllidfbdmmgoiaa", sum := "e0adfc95dc2962af415d9987601615911e2ebacfbd1bcc96adef24e99df297fc", func := "loop.example/satelliteclock/laws.FnExactJitterOf", spec := "fnExactJitterOf", apart := false }
def FnExactJitterOfSaid : Prop := fnExactJitterOfRow.holds Try.pinned (OpenSpec.ofChange fnExactJitterOfSpec)

/-- ITS FALSE NEIGHBOUR: 'it returns false'. Refute it at one input. -/
def fnExactJitterOfWrong : ChangeSpec := { name := "fnExactJitterOf", fn := fun _ => fun
  | [d] => { results := [.lit (.bool false)], args := [d] }
  | _ => none }
def FnExactJitterOfWrongFalsely : Prop := fnExactJitterOfRow.holds Try.pinned (OpenSpec.ofChange fnExactJitterOfWrong)

/-- 'laws.FnJitterOf': WHATEVER THE INPUT: true; the input reads as it did. -/
def fnJitterOfSpec : ChangeSpec := { name := "fnJitterOf", fn := fun _ => fun
  | [d] => { results := [.lit (.bool true)], args := [d] }
  | _ => none }
def fnJitterOfRow : OpenClaim := { program := "ytllidfbdmmgoiaa", sum := "e0adfc95dc2962af415d9987601615911e2ebacfbd1bcc96adef24e99df297fc", func := "loop.example/satelliteclock/laws.FnJitterOf", spec := "fnJitterOf", apart := false }
def FnJitterOfSaid : Prop := fnJitterOfRow.holds Try.pinned (OpenSpec.ofChange fnJitterOfSpec)

/-- ITS FALSE NEIGHBOUR: 'it returns false'. Refute it at one input. -/
def fnJitterOfWrong : ChangeSpec := { name := "fnJitterOf", fn := fun _ => fun
  | [d] => { results := [.lit (.bool false)], args := [d] }
  | _ => none }
def FnJitterOfWrongFalsely : Prop := fnJitterOfRow.holds Try.pinned (OpenSpec.ofChange fnJitterOfWrong)

/-- 'laws.FnBestSampleAdd': WHATEVER THE INPUT: true; the input reads as it did. -/
def fnBestSampleAddSpec : ChangeSpec := { name := "fnBestSampleAdd", fn := fun _ => fun
  | [d] => { results := [.lit (.bool true)], args := [d] }
  | _ => none }
def fnBestSampleAddRow : OpenClaim := { program := "ytllidfbdmmgoiaa", sum := "e0adfc95dc2962af415d9987601615911e2ebacfbd1bcc96adef24e99df297fc", func := "loop.example/satelliteclock/laws.FnBestSampleAdd", spec := "fnBestSampleAdd", apart := false }
def FnBestSampleAddSaid : Prop := fnBestSampleAddRow.holds Try.pinned (OpenSpec.ofChange fnBestSampleAddSpec)

/-- ITS FALSE NEIGHBOUR: 'it returns false'. Refute it at one input. -/
def fnBestSampleAddWrong : ChangeSpec := { name := "fnBestSampleAdd", fn := fun _ => fun
  | [d] => { results := [.lit (.bool false)], args := [d] }
  | _ => none }
def FnBestSampleAddWrongFalsely : Prop := fnBestSampleAddRow.holds Try.pinned (OpenSpec.ofChange fnBestSampleAddWrong)

/-- 'laws.FnExactAddSample': WHATEVER THE INPUT: true; the input reads as it did. -/
def fnExactAddSampleSpec : ChangeSpec := { name := "fnExactAddSample", fn := fun _ => fun
  | [d1, d2] => { results := [.lit (.bool true)], args := [d1, d2] }
  | _ => none }
def fnExactAddSampleRow : OpenClaim := { program := "ytllidfbdmmgoiaa", sum := "e0adfc95dc2962af415d9987601615911e2ebacfbd1bcc96adef24e99df297fc", func := "loop.example/satelliteclock/laws.FnExactAddSample", spec := "fnExactAddSample", apart := false }
def FnExactAddSampleSaid : Prop := fnExactAddSampleRow.holds Try.pinned (OpenSpec.ofChange fnExactAddSampleSpec)

/-- ITS FALSE NEIGHBOUR: 'it returns false'. Refute it at one input. -/
def fnExactAddSampleWrong : ChangeSpec := { name := "fnExactAddSample", fn := fun _ => fun
  | [d1, d2] => { results := [.lit (.bool false)], args := [d1, d2] }
  | _ => none }
def FnExactAddSampleWrongFalsely : Prop := fnExactAddSampleRow.holds Try.pinned (OpenSpec.ofChange fnExactAddSampleWrong)

/-- 'laws.FnAddSample': WHATEVER THE INPUT: true; the input reads as it did. -/
def fnAddSampleSpec : ChangeSpec := { name := "fnAddSample", fn := fun _ => fun
  | [d] => { results := [.lit (.bool true)], args := [d] }
  | _ => none }
def fnAddSampleRow : OpenClaim := { program := "ytllidfbdmmgoiaa", sum := "e0adfc95dc2962af415d9987601615911e2ebacfbd1bcc96adef24e99df297fc", func := "loop.example/satelliteclock/laws.FnAddSample", spec := "fnAddSample", apart := false }
def FnAddSampleSaid : Prop := fnAddSampleRow.holds Try.pinned (OpenSpec.ofChange fnAddSampleSpec)

/-- ITS FALSE NEIGHBOUR: 'it returns false'. Refute it at one input. -/
def fnAddSampleWrong : ChangeSpec := { name := "fnAddSample", fn := fun _ => fun
  | [d] => { results := [.lit (.bool false)], args := [d] }
  | _ => none }
def FnAddSampleWrongFalsely : Prop := fnAddSampleRow.holds Try.pinned (OpenSpec.ofChange fnAddSampleWrong)

/-- 'laws.FnAddSampleFull': WHATEVER THE INPUT: true; the input reads as it did. -/
def fnAddSampleFullSpec : ChangeSpec := { name := "fnAddSampleFull", fn := fun _ => fun
  | [d] => { results := [.lit (.bool true)], args := [d] }
  | _ => none }
def fnAddSampleFullRow : OpenClaim := { program := "ytllidfbdmmgoiaa", sum := "e0adfc95dc2962af415d9987601615911e2ebacfbd1bcc96adef24e99df297fc", func := "loop.example/satelliteclock/laws.FnAddSampleFull", spec := "fnAddSampleFull", apart := false }
def FnAddSampleFullSaid : Prop := fnAddSampleFullRow.holds Try.pinned (OpenSpec.ofChange fnAddSampleFullSpec)

/-- ITS FALSE NEIGHBOUR: 'it returns false'. Refute it at one input. -/
def fnAddSampleFullWrong : ChangeSpec := { name := "fnAddSampleFull", fn := fun _ => fun
  | [d] => { results := [.lit (.bool false)], args := [d] }
  | _ => none }
def FnAddSampleFullWrongFalsely : Prop := fnAddSampleFullRow.holds Try.pinned (OpenSpec.ofChange fnAddSampleFullWrong)

/- THE SECOND FORM. 'bulk': how many values and letters a reading holds, each counted each time it is reached (what is shared counts as often as it is met; a slice's spare places count too). A statement '..UptoSaid' is the law's where the arguments, and the package variables that the reading takes, are together of bulk at most 1048576: NARROWER than '..Said'. Prove '..Said' where nothing that the law and all that it calls make is longer than what came in: it says more and counts as full. Else prove '..UptoSaid'. A law counts once. -/
mutual
def uptoBulk {H : Type} : DataW H → Nat
  | .lit (.string bytes) => bytes.length + 1
  | .lit _ => 1
  | .nil => 1
  | .ptr d => uptoBulk d + 1
  | .slice elems spare => uptoBulkAll elems + uptoBulkAll spare + 1
  | .agg parts => uptoBulkAll parts + 1
  | .iface _ d => uptoBulk d + 1
  | .map entries => uptoBulkEntries entries + 1
  | .held _ => 1
def uptoBulkAll {H : Type} : List (DataW H) → Nat
  | [] => 0
  | d :: r => uptoBulk d + uptoBulkAll r
def uptoBulkEntries {H : Type} : List (Lit × DataW H) → Nat
  | [] => 0
  | x :: r => uptoBulkEntry x + uptoBulkEntries r
def uptoBulkEntry {H : Type} : Lit × DataW H → Nat
  | (.string bytes, d) => bytes.length + uptoBulk d + 1
  | (_, d) => uptoBulk d + 1
 end
def uptoSmall : (H : Type) → List (DataW H) → Bool := fun _ ds => decide (uptoBulkAll ds ≤ 1048576)
def OpenSpec.upto (s : _root_.Go.ChangeSpec) : _root_.Go.OpenSpec := { _root_.Go.OpenSpec.ofChange s with cond := some uptoSmall }

/-- 'laws.FnExactValidSamples', WHERE WHAT IT READS IS OF BULK AT MOST 1048576: true; the input reads as it did. -/
def fnExactValidSamplesUptoRow : OpenClaim := { program := "ytllidfbdmmgoiaa", sum := "e0adfc95dc2962af415d9987601615911e2ebacfbd1bcc96adef24e99df297fc", func := "loop.example/satelliteclock/laws.FnExactValidSamples", spec := "fnExactValidSamples", apart := false, narrowed := true }
def FnExactValidSamplesUptoSaid : Prop := fnExactValidSamplesUptoRow.holds Try.pinned (OpenSpec.upto fnExactValidSamplesSpec)

/-- 'laws.FnValidSamples', WHERE WHAT IT READS IS OF BULK AT MOST 1048576: true; the input reads as it did. -/
def fnValidSamplesUptoRow : OpenClaim := { program := "ytllidfbdmmgoiaa", sum := "e0adfc95dc2962af415d9987601615911e2ebacfbd1bcc96adef24e99df297fc", func := "loop.example/satelliteclock/laws.FnValidSamples", spec := "fnValidSamples", apart := false, narrowed := true }
def FnValidSamplesUptoSaid : Prop := fnValidSamplesUptoRow.holds Try.pinned (OpenSpec.upto fnValidSamplesSpec)

/-- 'laws.FnExactBestSample', WHERE WHAT IT READS IS OF BULK AT MOST 1048576: true; the input reads as it did. -/
def fnExactBestSampleUptoRow : OpenClaim := { program := "ytllidfbdmmgoiaa", sum := "e0adfc95dc2962af415d9987601615911e2ebacfbd1bcc96adef24e99df297fc", func := "loop.example/satelliteclock/laws.FnExactBestSample", spec := "fnExactBestSample", apart := false, narrowed := true }
def FnExactBestSampleUptoSaid : Prop := fnExactBestSampleUptoRow.holds Try.pinned (OpenSpec.upto fnExactBestSampleSpec)

/-- 'laws.FnBestSample', WHERE WHAT IT READS IS OF BULK AT MOST 1048576: true; the input reads as it did. -/
def fnBestSampleUptoRow : OpenClaim := { program := "ytllidfbdmmgoiaa", sum := "e0adfc95dc2962af415d9987601615911e2ebacfbd1bcc96adef24e99df297fc", func := "loop.example/satelliteclock/laws.FnBestSample", spec := "fnBestSample", apart := false, narrowed := true }
def FnBestSampleUptoSaid : Prop := fnBestSampleUptoRow.holds Try.pinned (OpenSpec.upto fnBestSampleSpec)

/-- 'laws.FnExactJitterOf', WHERE WHAT IT READS IS OF BULK AT MOST 1048576: true; the input reads as it did. -/
def fnExactJitterOfUptoRow : OpenClaim := { program := "ytllidfbdmmgoiaa", sum := "e0adfc95dc2962af415d9987601615911e2ebacfbd1bcc96adef24e99df297fc", func := "loop.example/satelliteclock/laws.FnExactJitterOf", spec := "fnExactJitterOf", apart := false, narrowed := true }
def FnExactJitterOfUptoSaid : Prop := fnExactJitterOfUptoRow.holds Try.pinned (OpenSpec.upto fnExactJitterOfSpec)

/-- 'laws.FnJitterOf', WHERE WHAT IT READS IS OF BULK AT MOST 1048576: true; the input reads as it did. -/
def fnJitterOfUptoRow : OpenClaim := { program := "ytllidfbdmmgoiaa", sum := "e0adfc95dc2962af415d9987601615911e2ebacfbd1bcc96adef24e99df297fc", func := "loop.example/satelliteclock/laws.FnJitterOf", spec := "fnJitterOf", apart := false, narrowed := true }
def FnJitterOfUptoSaid : Prop := fnJitterOfUptoRow.holds Try.pinned (OpenSpec.upto fnJitterOfSpec)

/-- 'laws.FnBestSampleAdd', WHERE WHAT IT READS IS OF BULK AT MOST 1048576: true; the input reads as it did. -/
def fnBestSampleAddUptoRow : OpenClaim := { program := "ytllidfbdmmgoiaa", sum := "e0adfc95dc2962af415d9987601615911e2ebacfbd1bcc96adef24e99df297fc", func := "loop.example/satelliteclock/laws.FnBestSampleAdd", spec := "fnBestSampleAdd", apart := false, narrowed := true }
def FnBestSampleAddUptoSaid : Prop := fnBestSampleAddUptoRow.holds Try.pinned (OpenSpec.upto fnBestSampleAddSpec)

/-- 'laws.FnExactAddSample', WHERE WHAT IT READS IS OF BULK AT MOST 1048576: true; the input reads as it did. -/
def fnExactAddSampleUptoRow : OpenClaim := { program := "ytllidfbdmmgoiaa", sum := "e0adfc95dc2962af415d9987601615911e2ebacfbd1bcc96adef24e99df297fc", func := "loop.example/satelliteclock/laws.FnExactAddSample", spec := "fnExactAddSample", apart := false, narrowed := true }
def FnExactAddSampleUptoSaid : Prop := fnExactAddSampleUptoRow.holds Try.pinned (OpenSpec.upto fnExactAddSampleSpec)

/-- 'laws.FnAddSample', WHERE WHAT IT READS IS OF BULK AT MOST 1048576: true; the input reads as it did. -/
def fnAddSampleUptoRow : OpenClaim := { program := "ytllidfbdmmgoiaa", sum := "e0adfc95dc2962af415d9987601615911e2ebacfbd1bcc96adef24e99df297fc", func := "loop.example/satelliteclock/laws.FnAddSample", spec := "fnAddSample", apart := false, narrowed := true }
def FnAddSampleUptoSaid : Prop := fnAddSampleUptoRow.holds Try.pinned (OpenSpec.upto fnAddSampleSpec)

/-- 'laws.FnAddSampleFull', WHERE WHAT IT READS IS OF BULK AT MOST 1048576: true; the input reads as it did. -/
def fnAddSampleFullUptoRow : OpenClaim := { program := "ytllidfbdmmgoiaa", sum := "e0adfc95dc2962af415d9987601615911e2ebacfbd1bcc96adef24e99df297fc", func := "loop.example/satelliteclock/laws.FnAddSampleFull", spec := "fnAddSampleFull", apart := false, narrowed := true }
def FnAddSampleFullUptoSaid : Prop := fnAddSampleFullUptoRow.holds Try.pinned (OpenSpec.upto fnAddSampleFullSpec)

end Rows
end Go.Proofs.Ytllidfbdmmgoiaa
