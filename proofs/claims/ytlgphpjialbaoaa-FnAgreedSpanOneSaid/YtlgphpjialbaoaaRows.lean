/-
  No cell of these rows narrows 'for every input' (looked for: loops, veiled, ifaces, maps, wideKeys, modest, calm, conditions, laid).
  DERIVED. THE GIVEN ROWS OF THIS SEAT. 10 by the template 'for every input the law returns true; each argument reads behind the call as it read before'; 0 by the template 'total and deterministic' (their statements: YtlgphpjialbaoaaTotals.lean).
  GIVEN WITH THE SEED: the statements are not yours to turn. If you find one false, say at which input.
  Laid BY PROGRAM, IN A SANDBOX (cutbox-rows.mjs): the forced cells as the released guide's own fill.sh prints them over the translation 3c9b73792f04222b… (all of the seat's roots in one cut). By AI agents, Wed Nov 11 2026. No macro, syntax, notation, axiom, sorry.
-/
import Derived.Test.YtlgphpjialbaoaaChecked
import GoSem.Claim
import GoSem.ClaimJoined
import GoSem.ClaimMapViews
import Derived.JoinedTies
import Derived.KernelRfl
namespace Go.Proofs.Ytlgphpjialbaoaa
/- THE CELL 'sum', in the pinned program and in every row, IS THE sha256 OF THE DUMP (.gsa) THAT YtlgphpjialbaoaaProg.lean LOADS. Nothing in Lean hashes anything: it is a label: what it is worth is what the hold of that sum in a sandbox is worth. -/
noncomputable def Try.pinned : Pinned := { name := "ytlgphpjialbaoaa", sum := "3c9b73792f04222be738eaa76caddd750773ea843a72d4794c5d6f6804b081f3", checked := Try.checked }
namespace Rows
def none {H : Type} : Left H := { results := [], args := [] }

/-- 'laws.FnAgreedSpanAdd': WHATEVER THE INPUT: true; the input reads as it did. -/
def fnAgreedSpanAddSpec : ChangeSpec := { name := "fnAgreedSpanAdd", fn := fun _ => fun
  | [d] => { results := [.lit (.bool true)], args := [d] }
  | _ => none }
def fnAgreedSpanAddRow : OpenClaim := { program := "ytlgphpjialbaoaa", sum := "3c9b73792f04222be738eaa76caddd750773ea843a72d4794c5d6f6804b081f3", func := "loop.example/satelliteclock/laws.FnAgreedSpanAdd", spec := "fnAgreedSpanAdd", unfollowed := true, recurses := true, apart := false }
def FnAgreedSpanAddSaid : Prop := fnAgreedSpanAddRow.holds Try.pinned (OpenSpec.ofChange fnAgreedSpanAddSpec)

/-- ITS FALSE NEIGHBOUR: 'it returns false'. Refute it at one input. -/
def fnAgreedSpanAddWrong : ChangeSpec := { name := "fnAgreedSpanAdd", fn := fun _ => fun
  | [d] => { results := [.lit (.bool false)], args := [d] }
  | _ => none }
def FnAgreedSpanAddWrongFalsely : Prop := fnAgreedSpanAddRow.holds Try.pinned (OpenSpec.ofChange fnAgreedSpanAddWrong)

/-- 'laws.FnAgreedSpanOne': WHATEVER THE INPUT: true; the input reads as it did. -/
def fnAgreedSpanOneSpec : ChangeSpec := { name := "fnAgreedSpanOne", fn := fun _ => fun
  | [d] => { results := [.lit (.bool true)], args := [d] }
  | _ => none }
def fnAgreedSpanOneRow : OpenClaim := { program := "ytlgphpjialbaoaa", sum := "3c9b73792f04222be738eaa76caddd750773ea843a72d4794c5d6f6804b081f3", func := "loop.example/satelliteclock/laws.FnAgreedSpanOne", spec := "fnAgreedSpanOne", unfollowed := true, recurses := true, apart := false }
def FnAgreedSpanOneSaid : Prop := fnAgreedSpanOneRow.holds Try.pinned (OpenSpec.ofChange fnAgreedSpanOneSpec)

/-- ITS FALSE NEIGHBOUR: 'it returns false'. Refute it at one input. -/
def fnAgreedSpanOneWrong : ChangeSpec := { name := "fnAgreedSpanOne", fn := fun _ => fun
  | [d] => { results := [.lit (.bool false)], args := [d] }
  | _ => none }
def FnAgreedSpanOneWrongFalsely : Prop := fnAgreedSpanOneRow.holds Try.pinned (OpenSpec.ofChange fnAgreedSpanOneWrong)

/-- 'laws.FnAgreedSpanOrder': WHATEVER THE INPUT: true; the input reads as it did. -/
def fnAgreedSpanOrderSpec : ChangeSpec := { name := "fnAgreedSpanOrder", fn := fun _ => fun
  | [d] => { results := [.lit (.bool true)], args := [d] }
  | _ => none }
def fnAgreedSpanOrderRow : OpenClaim := { program := "ytlgphpjialbaoaa", sum := "3c9b73792f04222be738eaa76caddd750773ea843a72d4794c5d6f6804b081f3", func := "loop.example/satelliteclock/laws.FnAgreedSpanOrder", spec := "fnAgreedSpanOrder", unfollowed := true, recurses := true, apart := false }
def FnAgreedSpanOrderSaid : Prop := fnAgreedSpanOrderRow.holds Try.pinned (OpenSpec.ofChange fnAgreedSpanOrderSpec)

/-- ITS FALSE NEIGHBOUR: 'it returns false'. Refute it at one input. -/
def fnAgreedSpanOrderWrong : ChangeSpec := { name := "fnAgreedSpanOrder", fn := fun _ => fun
  | [d] => { results := [.lit (.bool false)], args := [d] }
  | _ => none }
def FnAgreedSpanOrderWrongFalsely : Prop := fnAgreedSpanOrderRow.holds Try.pinned (OpenSpec.ofChange fnAgreedSpanOrderWrong)

/-- 'laws.FnExactAgreedSpan': WHATEVER THE INPUT: true; the input reads as it did. -/
def fnExactAgreedSpanSpec : ChangeSpec := { name := "fnExactAgreedSpan", fn := fun _ => fun
  | [d] => { results := [.lit (.bool true)], args := [d] }
  | _ => none }
def fnExactAgreedSpanRow : OpenClaim := { program := "ytlgphpjialbaoaa", sum := "3c9b73792f04222be738eaa76caddd750773ea843a72d4794c5d6f6804b081f3", func := "loop.example/satelliteclock/laws.FnExactAgreedSpan", spec := "fnExactAgreedSpan", unfollowed := true, recurses := true, apart := false }
def FnExactAgreedSpanSaid : Prop := fnExactAgreedSpanRow.holds Try.pinned (OpenSpec.ofChange fnExactAgreedSpanSpec)

/-- ITS FALSE NEIGHBOUR: 'it returns false'. Refute it at one input. -/
def fnExactAgreedSpanWrong : ChangeSpec := { name := "fnExactAgreedSpan", fn := fun _ => fun
  | [d] => { results := [.lit (.bool false)], args := [d] }
  | _ => none }
def FnExactAgreedSpanWrongFalsely : Prop := fnExactAgreedSpanRow.holds Try.pinned (OpenSpec.ofChange fnExactAgreedSpanWrong)

/-- 'laws.FnAgreedSpan': WHATEVER THE INPUT: true; the input reads as it did. -/
def fnAgreedSpanSpec : ChangeSpec := { name := "fnAgreedSpan", fn := fun _ => fun
  | [d] => { results := [.lit (.bool true)], args := [d] }
  | _ => none }
def fnAgreedSpanRow : OpenClaim := { program := "ytlgphpjialbaoaa", sum := "3c9b73792f04222be738eaa76caddd750773ea843a72d4794c5d6f6804b081f3", func := "loop.example/satelliteclock/laws.FnAgreedSpan", spec := "fnAgreedSpan", unfollowed := true, recurses := true, apart := false }
def FnAgreedSpanSaid : Prop := fnAgreedSpanRow.holds Try.pinned (OpenSpec.ofChange fnAgreedSpanSpec)

/-- ITS FALSE NEIGHBOUR: 'it returns false'. Refute it at one input. -/
def fnAgreedSpanWrong : ChangeSpec := { name := "fnAgreedSpan", fn := fun _ => fun
  | [d] => { results := [.lit (.bool false)], args := [d] }
  | _ => none }
def FnAgreedSpanWrongFalsely : Prop := fnAgreedSpanRow.holds Try.pinned (OpenSpec.ofChange fnAgreedSpanWrong)

/-- 'laws.FnExactMiddleOf': WHATEVER THE INPUT: true; the input reads as it did. -/
def fnExactMiddleOfSpec : ChangeSpec := { name := "fnExactMiddleOf", fn := fun _ => fun
  | [d] => { results := [.lit (.bool true)], args := [d] }
  | _ => none }
def fnExactMiddleOfRow : OpenClaim := { program := "ytlgphpjialbaoaa", sum := "3c9b73792f04222be738eaa76caddd750773ea843a72d4794c5d6f6804b081f3", func := "loop.example/satelliteclock/laws.FnExactMiddleOf", spec := "fnExactMiddleOf", unfollowed := true, recurses := true, apart := false }
def FnExactMiddleOfSaid : Prop := fnExactMiddleOfRow.holds Try.pinned (OpenSpec.ofChange fnExactMiddleOfSpec)

/-- ITS FALSE NEIGHBOUR: 'it returns false'. Refute it at one input. -/
def fnExactMiddleOfWrong : ChangeSpec := { name := "fnExactMiddleOf", fn := fun _ => fun
  | [d] => { results := [.lit (.bool false)], args := [d] }
  | _ => none }
def FnExactMiddleOfWrongFalsely : Prop := fnExactMiddleOfRow.holds Try.pinned (OpenSpec.ofChange fnExactMiddleOfWrong)

/-- 'laws.FnMiddleOfShift': WHATEVER THE INPUT: true; the input reads as it did. -/
def fnMiddleOfShiftSpec : ChangeSpec := { name := "fnMiddleOfShift", fn := fun _ => fun
  | [d] => { results := [.lit (.bool true)], args := [d] }
  | _ => none }
def fnMiddleOfShiftRow : OpenClaim := { program := "ytlgphpjialbaoaa", sum := "3c9b73792f04222be738eaa76caddd750773ea843a72d4794c5d6f6804b081f3", func := "loop.example/satelliteclock/laws.FnMiddleOfShift", spec := "fnMiddleOfShift", unfollowed := true, recurses := true, apart := false }
def FnMiddleOfShiftSaid : Prop := fnMiddleOfShiftRow.holds Try.pinned (OpenSpec.ofChange fnMiddleOfShiftSpec)

/-- ITS FALSE NEIGHBOUR: 'it returns false'. Refute it at one input. -/
def fnMiddleOfShiftWrong : ChangeSpec := { name := "fnMiddleOfShift", fn := fun _ => fun
  | [d] => { results := [.lit (.bool false)], args := [d] }
  | _ => none }
def FnMiddleOfShiftWrongFalsely : Prop := fnMiddleOfShiftRow.holds Try.pinned (OpenSpec.ofChange fnMiddleOfShiftWrong)

/-- 'laws.FnMiddleOf': WHATEVER THE INPUT: true; the input reads as it did. -/
def fnMiddleOfSpec : ChangeSpec := { name := "fnMiddleOf", fn := fun _ => fun
  | [d] => { results := [.lit (.bool true)], args := [d] }
  | _ => none }
def fnMiddleOfRow : OpenClaim := { program := "ytlgphpjialbaoaa", sum := "3c9b73792f04222be738eaa76caddd750773ea843a72d4794c5d6f6804b081f3", func := "loop.example/satelliteclock/laws.FnMiddleOf", spec := "fnMiddleOf", unfollowed := true, recurses := true, apart := false }
def FnMiddleOfSaid : Prop := fnMiddleOfRow.holds Try.pinned (OpenSpec.ofChange fnMiddleOfSpec)

/-- ITS FALSE NEIGHBOUR: 'it returns false'. Refute it at one input. -/
def fnMiddleOfWrong : ChangeSpec := { name := "fnMiddleOf", fn := fun _ => fun
  | [d] => { results := [.lit (.bool false)], args := [d] }
  | _ => none }
def FnMiddleOfWrongFalsely : Prop := fnMiddleOfRow.holds Try.pinned (OpenSpec.ofChange fnMiddleOfWrong)

/-- 'laws.FnFalseSources': WHATEVER THE INPUT: true; the input reads as it did. -/
def fnFalseSourcesSpec : ChangeSpec := { name := "fnFalseSources", fn := fun _ => fun
  | [d] => { results := [.lit (.bool true)], args := [d] }
  | _ => none }
def fnFalseSourcesRow : OpenClaim := { program := "ytlgphpjialbaoaa", sum := "3c9b73792f04222be738eaa76caddd750773ea843a72d4794c5d6f6804b081f3", func := "loop.example/satelliteclock/laws.FnFalseSources", spec := "fnFalseSources", unfollowed := true, recurses := true, apart := false }
def FnFalseSourcesSaid : Prop := fnFalseSourcesRow.holds Try.pinned (OpenSpec.ofChange fnFalseSourcesSpec)

/-- ITS FALSE NEIGHBOUR: 'it returns false'. Refute it at one input. -/
def fnFalseSourcesWrong : ChangeSpec := { name := "fnFalseSources", fn := fun _ => fun
  | [d] => { results := [.lit (.bool false)], args := [d] }
  | _ => none }
def FnFalseSourcesWrongFalsely : Prop := fnFalseSourcesRow.holds Try.pinned (OpenSpec.ofChange fnFalseSourcesWrong)

/-- 'laws.FnExactFalseSources': WHATEVER THE INPUT: true; the input reads as it did. -/
def fnExactFalseSourcesSpec : ChangeSpec := { name := "fnExactFalseSources", fn := fun _ => fun
  | [d] => { results := [.lit (.bool true)], args := [d] }
  | _ => none }
def fnExactFalseSourcesRow : OpenClaim := { program := "ytlgphpjialbaoaa", sum := "3c9b73792f04222be738eaa76caddd750773ea843a72d4794c5d6f6804b081f3", func := "loop.example/satelliteclock/laws.FnExactFalseSources", spec := "fnExactFalseSources", unfollowed := true, recurses := true, apart := false }
def FnExactFalseSourcesSaid : Prop := fnExactFalseSourcesRow.holds Try.pinned (OpenSpec.ofChange fnExactFalseSourcesSpec)

/-- ITS FALSE NEIGHBOUR: 'it returns false'. Refute it at one input. -/
def fnExactFalseSourcesWrong : ChangeSpec := { name := "fnExactFalseSources", fn := fun _ => fun
  | [d] => { results := [.lit (.bool false)], args := [d] }
  | _ => none }
def FnExactFalseSourcesWrongFalsely : Prop := fnExactFalseSourcesRow.holds Try.pinned (OpenSpec.ofChange fnExactFalseSourcesWrong)

/- THE SECOND FORM. 'bulk': how many values and letters a reading holds, each counted each time it is reached (what is shared counts as often as it is met; a slice's spare places count too). A statement '..UptoSaid' is the law's where the arguments, and the package variables that the reading takes, are together of bulk at most 1048576: NARROWER than '..Said'. Prove '..Said' where nothing that the law and all that it calls make is longer than what came in: it says more and counts as full. Else prove '..UptoSaid'. A law counts once. -/
mutual
def uptoBulk {H : Type} : DataW H → Nat
  | .lit (.string bytes) => bytes.length + 1
  | .lit _ => 1
  | .nil => 1
  | .ptr d => uptoBulk d + 1
  | .slice elems spare => uptoBulkAll elems + uptoBulkAll spare + 1
  | .agg parts => uptoBulkAll parts + 1
  | .iface _ d => uptoBulk d + 1
  | .map entries => uptoBulkEntries entries + 1
  | .held _ => 1
def uptoBulkAll {H : Type} : List (DataW H) → Nat
  | [] => 0
  | d :: r => uptoBulk d + uptoBulkAll r
def uptoBulkEntries {H : Type} : List (Lit × DataW H) → Nat
  | [] => 0
  | x :: r => uptoBulkEntry x + uptoBulkEntries r
def uptoBulkEntry {H : Type} : Lit × DataW H → Nat
  | (.string bytes, d) => bytes.length + uptoBulk d + 1
  | (_, d) => uptoBulk d + 1
 end
def uptoSmall : (H : Type) → List (DataW H) → Bool := fun _ ds => decide (uptoBulkAll ds ≤ 1048576)
def OpenSpec.upto (s : _root_.Go.ChangeSpec) : _root_.Go.OpenSpec := { _root_.Go.OpenSpec.ofChange s with cond := some uptoSmall }

/-- 'laws.FnAgreedSpanAdd', WHERE WHAT IT READS IS OF BULK AT MOST 1048576: true; the input reads as it did. -/
def fnAgreedSpanAddUptoRow : OpenClaim := { program := "ytlgphpjialbaoaa", sum := "3c9b73792f04222be738eaa76caddd750773ea843a72d4794c5d6f6804b081f3", func := "loop.example/satelliteclock/laws.FnAgreedSpanAdd", spec := "fnAgreedSpanAdd", unfollowed := true, recurses := true, apart := false, narrowed := true }
def FnAgreedSpanAddUptoSaid : Prop := fnAgreedSpanAddUptoRow.holds Try.pinned (OpenSpec.upto fnAgreedSpanAddSpec)

/-- 'laws.FnAgreedSpanOne', WHERE WHAT IT READS IS OF BULK AT MOST 1048576: true; the input reads as it did. -/
def fnAgreedSpanOneUptoRow : OpenClaim := { program := "ytlgphpjialbaoaa", sum := "3c9b73792f04222be738eaa76caddd750773ea843a72d4794c5d6f6804b081f3", func := "loop.example/satelliteclock/laws.FnAgreedSpanOne", spec := "fnAgreedSpanOne", unfollowed := true, recurses := true, apart := false, narrowed := true }
def FnAgreedSpanOneUptoSaid : Prop := fnAgreedSpanOneUptoRow.holds Try.pinned (OpenSpec.upto fnAgreedSpanOneSpec)

/-- 'laws.FnAgreedSpanOrder', WHERE WHAT IT READS IS OF BULK AT MOST 1048576: true; the input reads as it did. -/
def fnAgreedSpanOrderUptoRow : OpenClaim := { program := "ytlgphpjialbaoaa", sum := "3c9b73792f04222be738eaa76caddd750773ea843a72d4794c5d6f6804b081f3", func := "loop.example/satelliteclock/laws.FnAgreedSpanOrder", spec := "fnAgreedSpanOrder", unfollowed := true, recurses := true, apart := false, narrowed := true }
def FnAgreedSpanOrderUptoSaid : Prop := fnAgreedSpanOrderUptoRow.holds Try.pinned (OpenSpec.upto fnAgreedSpanOrderSpec)

/-- 'laws.FnExactAgreedSpan', WHERE WHAT IT READS IS OF BULK AT MOST 1048576: true; the input reads as it did. -/
def fnExactAgreedSpanUptoRow : OpenClaim := { program := "ytlgphpjialbaoaa", sum := "3c9b73792f04222be738eaa76caddd750773ea843a72d4794c5d6f6804b081f3", func := "loop.example/satelliteclock/laws.FnExactAgreedSpan", spec := "fnExactAgreedSpan", unfollowed := true, recurses := true, apart := false, narrowed := true }
def FnExactAgreedSpanUptoSaid : Prop := fnExactAgreedSpanUptoRow.holds Try.pinned (OpenSpec.upto fnExactAgreedSpanSpec)

/-- 'laws.FnAgreedSpan', WHERE WHAT IT READS IS OF BULK AT MOST 1048576: true; the input reads as it did. -/
def fnAgreedSpanUptoRow : OpenClaim := { program := "ytlgphpjialbaoaa", sum := "3c9b73792f04222be738eaa76caddd750773ea843a72d4794c5d6f6804b081f3", func := "loop.example/satelliteclock/laws.FnAgreedSpan", spec := "fnAgreedSpan", unfollowed := true, recurses := true, apart := false, narrowed := true }
def FnAgreedSpanUptoSaid : Prop := fnAgreedSpanUptoRow.holds Try.pinned (OpenSpec.upto fnAgreedSpanSpec)

/-- 'laws.FnExactMiddleOf', WHERE WHAT IT READS IS OF BULK AT MOST 1048576: true; the input reads as it did. -/
def fnExactMiddleOfUptoRow : OpenClaim := { program := "ytlgphpjialbaoaa", sum := "3c9b73792f04222be738eaa76caddd750773ea843a72d4794c5d6f6804b081f3", func := "loop.example/satelliteclock/laws.FnExactMiddleOf", spec := "fnExactMiddleOf", unfollowed := true, recurses := true, apart := false, narrowed := true }
def FnExactMiddleOfUptoSaid : Prop := fnExactMiddleOfUptoRow.holds Try.pinned (OpenSpec.upto fnExactMiddleOfSpec)

/-- 'laws.FnMiddleOfShift', WHERE WHAT IT READS IS OF BULK AT MOST 1048576: true; the input reads as it did. -/
def fnMiddleOfShiftUptoRow : OpenClaim := { program := "ytlgphpjialbaoaa", sum := "3c9b73792f04222be738eaa76caddd750773ea843a72d4794c5d6f6804b081f3", func := "loop.example/satelliteclock/laws.FnMiddleOfShift", spec := "fnMiddleOfShift", unfollowed := true, recurses := true, apart := false, narrowed := true }
def FnMiddleOfShiftUptoSaid : Prop := fnMiddleOfShiftUptoRow.holds Try.pinned (OpenSpec.upto fnMiddleOfShiftSpec)

/-- 'laws.FnMiddleOf', WHERE WHAT IT READS IS OF BULK AT MOST 1048576: true; the input reads as it did. -/
def fnMiddleOfUptoRow : OpenClaim := { program := "ytlgphpjialbaoaa", sum := "3c9b73792f04222be738eaa76caddd750773ea843a72d4794c5d6f6804b081f3", func := "loop.example/satelliteclock/laws.FnMiddleOf", spec := "fnMiddleOf", unfollowed := true, recurses := true, apart := false, narrowed := true }
def FnMiddleOfUptoSaid : Prop := fnMiddleOfUptoRow.holds Try.pinned (OpenSpec.upto fnMiddleOfSpec)

/-- 'laws.FnFalseSources', WHERE WHAT IT READS IS OF BULK AT MOST 1048576: true; the input reads as it did. -/
def fnFalseSourcesUptoRow : OpenClaim := { program := "ytlgphpjialbaoaa", sum := "3c9b73792f04222be738eaa76caddd750773ea843a72d4794c5d6f6804b081f3", func := "loop.example/satelliteclock/laws.FnFalseSources", spec := "fnFalseSources", unfollowed := true, recurses := true, apart := false, narrowed := true }
def FnFalseSourcesUptoSaid : Prop := fnFalseSourcesUptoRow.holds Try.pinned (OpenSpec.upto fnFalseSourcesSpec)

/-- 'laws.FnExactFalseSources', WHERE WHAT IT READS IS OF BULK AT MOST 1048576: true; the input reads as it did. -/
def fnExactFalseSourcesUptoRow : OpenClaim := { program := "ytlgphpjialbaoaa", sum := "3c9b73792f04222be738eaa76caddd750773ea843a72d4794c5d6f6804b081f3", func := "loop.example/satelliteclock/laws.FnExactFalseSources", spec := "fnExactFalseSources", unfollowed := true, recurses := true, apart := false, narrowed := true }
def FnExactFalseSourcesUptoSaid : Prop := fnExactFalseSourcesUptoRow.holds Try.pinned (OpenSpec.upto fnExactFalseSourcesSpec)

end Rows
end Go.Proofs.Ytlgphpjialbaoaa
