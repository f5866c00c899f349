/- The program's ValidClock returns what the reference's returns, for all clocks. For every input; no condition. -/
import Derived.Test.YtedmfipncmkfcaaPAllx9
import Derived.Test.YtedmfipncmkfcaaBase
namespace Go.Proofs.Ytedmfipncmkfcaa.Pure
open Go.RowKit Go.Proofs.Ytedmfipncmkfcaa.PAll Go.Proofs.YtedmfipncmkfcaaW.PrintWords Go.Proofs.YtedmfipncmkfcaaW.PrintLast Go.Proofs.YtedmfipncmkfcaaW.PrintMore Go.Proofs.Ytedmfipncmkfcaa.Base
set_option linter.unusedVariables false
set_option linter.unusedSimpArgs false

theorem within_eq (a b c : Int) : impl_within.f a b c = some (decide (b ≤ a ∧ a ≤ c)) := by
  unfold impl_within.f
  by_cases h : b ≤ a
  · rw [if_pos h]; simp [h]
  · rw [if_neg h]; simp [h]

theorem inRange_eq (a b c : Int) : spec_inRange.f a b c = some (decide (b ≤ a ∧ a ≤ c)) := by
  unfold spec_inRange.f
  by_cases h : b ≤ a
  · rw [if_pos h]; simp [h]
  · rw [if_neg h]; simp [h]

/-- A valid clock. -/
def VC (o r a : Int) : Bool := decide (-1000000 ≤ o ∧ o ≤ 1000000) && (decide (-500000 ≤ r ∧ r ≤ 500000) && decide (0 ≤ a ∧ a ≤ 3786479999))

theorem iValidClock_eq (o r a : Int) : impl_ValidClock.f o r a = some (VC o r a) := by
  unfold impl_ValidClock.f impl_isOffset.f impl_isTime.f VC
  simp only [within_eq, Option.bind_some]
  by_cases h1 : -1000000 ≤ o ∧ o ≤ 1000000 <;> by_cases h2 : -500000 ≤ r ∧ r ≤ 500000 <;> simp [h1, h2]

theorem sValidClock_eq (o r a : Int) : spec_validClock.f o r a = some (VC o r a) := by
  unfold spec_validClock.f VC
  simp only [inRange_eq, Option.bind_some]
  by_cases h1 : -1000000 ≤ o ∧ o ≤ 1000000 <;> by_cases h2 : -500000 ≤ r ∧ r ≤ 500000 <;> simp [h1, h2]

theorem VC_iff (o r a : Int) : VC o r a = true ↔ (-1000000 ≤ o ∧ o ≤ 1000000) ∧ (-500000 ≤ r ∧ r ≤ 500000) ∧ (0 ≤ a ∧ a ≤ 3786479999) := by
  unfold VC; simp

theorem sValidClock2_eq (o r a : Int) : spec_ValidClock.f o r a = some (VC o r a) := by
  unfold spec_ValidClock.f
  rw [sValidClock_eq]; simp only [Option.bind_some]

theorem FnExactValidClock : ∀ (a0_0 : Int) (a0_1 : Int) (a0_2 : Int), (Lit.int .i64 a0_0).wf = true → (Lit.int .i64 a0_1).wf = true → (Lit.int .i64 a0_2).wf = true → laws_FnExactValidClock.f a0_0 a0_1 a0_2 = some true := by
  intro o r a _ _ _
  unfold laws_FnExactValidClock.f laws_toClock.f
  simp only [Option.bind_some, iValidClock_eq, sValidClock2_eq]
  rw [if_neg (by simp)]

end Go.Proofs.Ytedmfipncmkfcaa.Pure
