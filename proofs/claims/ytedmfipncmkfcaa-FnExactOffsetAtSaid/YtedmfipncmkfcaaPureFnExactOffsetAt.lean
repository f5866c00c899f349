/- The program's OffsetAt returns what the reference's returns, for all arguments. For every input; no condition. -/
import Derived.Test.YtedmfipncmkfcaaPAllx4
import Derived.Test.YtedmfipncmkfcaaBase
namespace Go.Proofs.Ytedmfipncmkfcaa.Pure
open Go.RowKit Go.Proofs.Ytedmfipncmkfcaa.PAll Go.Proofs.YtedmfipncmkfcaaW.PrintWords Go.Proofs.YtedmfipncmkfcaaW.PrintLast Go.Proofs.YtedmfipncmkfcaaW.PrintMore Go.Proofs.Ytedmfipncmkfcaa.Base
set_option linter.unusedVariables false
set_option linter.unusedSimpArgs false

theorem within_eq (a b c : Int) : impl_within.f a b c = some (decide (b ≤ a ∧ a ≤ c)) := by
  unfold impl_within.f
  by_cases h : b ≤ a
  · rw [if_pos h]; simp [h]
  · rw [if_neg h]; simp [h]

theorem inRange_eq (a b c : Int) : spec_inRange.f a b c = some (decide (b ≤ a ∧ a ≤ c)) := by
  unfold spec_inRange.f
  by_cases h : b ≤ a
  · rw [if_pos h]; simp [h]
  · rw [if_neg h]; simp [h]

/-- A valid clock. -/
def VC (o r a : Int) : Bool := decide (-1000000 ≤ o ∧ o ≤ 1000000) && (decide (-500000 ≤ r ∧ r ≤ 500000) && decide (0 ≤ a ∧ a ≤ 3786479999))

theorem iValidClock_eq (o r a : Int) : impl_ValidClock.f o r a = some (VC o r a) := by
  unfold impl_ValidClock.f impl_isOffset.f impl_isTime.f VC
  simp only [within_eq, Option.bind_some]
  by_cases h1 : -1000000 ≤ o ∧ o ≤ 1000000 <;> by_cases h2 : -500000 ≤ r ∧ r ≤ 500000 <;> simp [h1, h2]

theorem sValidClock_eq (o r a : Int) : spec_validClock.f o r a = some (VC o r a) := by
  unfold spec_validClock.f VC
  simp only [inRange_eq, Option.bind_some]
  by_cases h1 : -1000000 ≤ o ∧ o ≤ 1000000 <;> by_cases h2 : -500000 ≤ r ∧ r ≤ 500000 <;> simp [h1, h2]

theorem VC_iff (o r a : Int) : VC o r a = true ↔ (-1000000 ≤ o ∧ o ≤ 1000000) ∧ (-500000 ≤ r ∧ r ≤ 500000) ∧ (0 ≤ a ∧ a ≤ 3786479999) := by
  unfold VC; simp

/-- The arguments at which OffsetAt tells an offset; the offset. -/
def OAok (o r a t : Int) : Bool := VC o r a && decide (a ≤ t ∧ t ≤ mn (a + 100000) 3786479999)
def OAv (o r a t : Int) : Int := o + r * (t - a) / 1000
def OA (o r a t : Int) : Int × Bool := if OAok o r a t = true then (OAv o r a t, true) else (0, false)

theorem OA_t {o r a t : Int} (h : OAok o r a t = true) : OA o r a t = (OAv o r a t, true) := by unfold OA; rw [if_pos h]
theorem OA_f {o r a t : Int} (h : ¬ OAok o r a t = true) : OA o r a t = (0, false) := by unfold OA; rw [if_neg h]

theorem OAok_iff (o r a t : Int) : OAok o r a t = true ↔ ((-1000000 ≤ o ∧ o ≤ 1000000) ∧ (-500000 ≤ r ∧ r ≤ 500000) ∧ (0 ≤ a ∧ a ≤ 3786479999)) ∧ (a ≤ t ∧ t ≤ a + 100000 ∧ t ≤ 3786479999) := by
  unfold OAok
  rw [Bool.and_eq_true, VC_iff, decide_eq_true_eq]
  have h : t ≤ mn (a + 100000) 3786479999 ↔ t ≤ a + 100000 ∧ t ≤ 3786479999 := by
    unfold mn; split <;> constructor <;> intro h <;> first | omega | exact ⟨by omega, by omega⟩
  rw [h]

theorem mulb {r d : Int} (h1 : -500000 ≤ r) (h2 : r ≤ 500000) (h3 : 0 ≤ d) (h4 : d ≤ 100000) : -50000000000 ≤ r * d ∧ r * d ≤ 50000000000 := by
  have a := Int.mul_le_mul_of_nonneg_right h2 h3
  have b := Int.mul_le_mul_of_nonneg_right h1 h3
  omega

theorem OAv_rng {o r a t : Int} (h : OAok o r a t = true) : -60000000 ≤ OAv o r a t ∧ OAv o r a t ≤ 60000000 := by
  obtain ⟨⟨h1, h2, h3⟩, h4⟩ := (OAok_iff _ _ _ _).1 h
  have hb := mulb (d := t - a) h2.1 h2.2 (by omega) (by omega)
  unfold OAv
  omega

theorem iOffsetAt_eq (o r a t : Int) : impl_OffsetAt.f o r a t = some (OA o r a t) := by
  unfold impl_OffsetAt.f
  rw [iValidClock_eq]; simp only [Option.bind_some]
  by_cases h : VC o r a = true
  · rw [if_pos h]
    obtain ⟨h1, h2, h3⟩ := (VC_iff _ _ _).1 h
    unfold impl_Clock_lastTime.f
    simp only [Option.bind_some, within_eq]
    rw [w64 (x := a + 100000) (by omega) (by omega)]
    by_cases h4 : a ≤ t ∧ t ≤ mn (a + 100000) 3786479999
    · have hok : OAok o r a t = true := by unfold OAok; rw [h, decide_eq_true h4]; rfl
      obtain ⟨_, h5⟩ := (OAok_iff _ _ _ _).1 hok
      have hb := mulb (d := t - a) h2.1 h2.2 (by omega) (by omega)
      rw [if_pos (decide_eq_true h4), OA_t hok]
      unfold impl_Clock_offsetAt.f impl_floor.f OAv
      rw [w64 (x := t - a) (by omega) (by omega), w64 (x := r * (t - a)) (by omega) (by omega), if_neg (by omega), floor_eq (by omega) (by omega) (by omega)]
      simp only [Option.bind_some]
      rw [w64 (by omega) (by omega)]
    · have hok : ¬ OAok o r a t = true := by unfold OAok; rw [h, decide_eq_false h4]; decide
      rw [if_neg (by rw [decide_eq_false h4]; decide), OA_f hok]
  · have hok : ¬ OAok o r a t = true := by unfold OAok; intro e; rw [Bool.and_eq_true] at e; exact h e.1
    rw [if_neg h, OA_f hok]

theorem mn_comm (a b : Int) : mn a b = mn b a := by unfold mn; repeat' split <;> omega

theorem sOffsetAt_eq (o r a t : Int) : spec_OffsetAt.f o r a t = some (OA o r a t) := by
  unfold spec_OffsetAt.f
  rw [sValidClock_eq]; simp only [Option.bind_some]
  by_cases h : VC o r a = true
  · rw [if_pos h]
    obtain ⟨h1, h2, h3⟩ := (VC_iff _ _ _).1 h
    simp only [inRange_eq, Option.bind_some]
    rw [w64 (x := a + 100000) (by omega) (by omega), mn_comm]
    by_cases h4 : a ≤ t ∧ t ≤ mn (a + 100000) 3786479999
    · have hok : OAok o r a t = true := by unfold OAok; rw [h, decide_eq_true h4]; rfl
      obtain ⟨_, h5⟩ := (OAok_iff _ _ _ _).1 hok
      have hb := mulb (d := t - a) h2.1 h2.2 (by omega) (by omega)
      rw [if_pos (decide_eq_true h4), OA_t hok]
      unfold spec_drift.f spec_floorDiv.f OAv
      rw [w64 (x := t - a) (by omega) (by omega), w64 (x := r * (t - a)) (by omega) (by omega), if_neg (by omega), floor_eq (by omega) (by omega) (by omega)]
      simp only [Option.bind_some]
      rw [w64 (by omega) (by omega)]
    · have hok : ¬ OAok o r a t = true := by unfold OAok; rw [h, decide_eq_false h4]; decide
      rw [if_neg (by rw [decide_eq_false h4]; decide), OA_f hok]
  · have hok : ¬ OAok o r a t = true := by unfold OAok; intro e; rw [Bool.and_eq_true] at e; exact h e.1
    rw [if_neg h, OA_f hok]

theorem FnExactOffsetAt : ∀ (a0_0 : Int) (a0_1 : Int) (a0_2 : Int) (a1 : Int), (Lit.int .i64 a0_0).wf = true → (Lit.int .i64 a0_1).wf = true → (Lit.int .i64 a0_2).wf = true → (Lit.int .i64 a1).wf = true → laws_FnExactOffsetAt.f a0_0 a0_1 a0_2 a1 = some true := by
  intro o r a t _ _ _ _
  unfold laws_FnExactOffsetAt.f laws_toClock.f
  simp only [Option.bind_some, iOffsetAt_eq, sOffsetAt_eq]
  simp

end Go.Proofs.Ytedmfipncmkfcaa.Pure
