/- The program's StepClock returns what the reference's returns, for all arguments. For every input; no condition. -/
import Derived.Test.YtedmfipncmkfcaaPAllx7
import Derived.Test.YtedmfipncmkfcaaBase
namespace Go.Proofs.Ytedmfipncmkfcaa.Pure
open Go.RowKit Go.Proofs.Ytedmfipncmkfcaa.PAll Go.Proofs.YtedmfipncmkfcaaW.PrintWords Go.Proofs.YtedmfipncmkfcaaW.PrintLast Go.Proofs.YtedmfipncmkfcaaW.PrintMore Go.Proofs.Ytedmfipncmkfcaa.Base
set_option linter.unusedVariables false
set_option linter.unusedSimpArgs false

theorem within_eq (a b c : Int) : impl_within.f a b c = some (decide (b ≤ a ∧ a ≤ c)) := by
  unfold impl_within.f
  by_cases h : b ≤ a
  · rw [if_pos h]; simp [h]
  · rw [if_neg h]; simp [h]

theorem inRange_eq (a b c : Int) : spec_inRange.f a b c = some (decide (b ≤ a ∧ a ≤ c)) := by
  unfold spec_inRange.f
  by_cases h : b ≤ a
  · rw [if_pos h]; simp [h]
  · rw [if_neg h]; simp [h]

/-- A valid clock. -/
def VC (o r a : Int) : Bool := decide (-1000000 ≤ o ∧ o ≤ 1000000) && (decide (-500000 ≤ r ∧ r ≤ 500000) && decide (0 ≤ a ∧ a ≤ 3786479999))

theorem iValidClock_eq (o r a : Int) : impl_ValidClock.f o r a = some (VC o r a) := by
  unfold impl_ValidClock.f impl_isOffset.f impl_isTime.f VC
  simp only [within_eq, Option.bind_some]
  by_cases h1 : -1000000 ≤ o ∧ o ≤ 1000000 <;> by_cases h2 : -500000 ≤ r ∧ r ≤ 500000 <;> simp [h1, h2]

theorem sValidClock_eq (o r a : Int) : spec_validClock.f o r a = some (VC o r a) := by
  unfold spec_validClock.f VC
  simp only [inRange_eq, Option.bind_some]
  by_cases h1 : -1000000 ≤ o ∧ o ≤ 1000000 <;> by_cases h2 : -500000 ≤ r ∧ r ≤ 500000 <;> simp [h1, h2]

theorem VC_iff (o r a : Int) : VC o r a = true ↔ (-1000000 ≤ o ∧ o ≤ 1000000) ∧ (-500000 ≤ r ∧ r ≤ 500000) ∧ (0 ≤ a ∧ a ≤ 3786479999) := by
  unfold VC; simp

/-- The arguments at which OffsetAt tells an offset; the offset. -/
def OAok (o r a t : Int) : Bool := VC o r a && decide (a ≤ t ∧ t ≤ mn (a + 100000) 3786479999)
def OAv (o r a t : Int) : Int := o + r * (t - a) / 1000
def OA (o r a t : Int) : Int × Bool := if OAok o r a t = true then (OAv o r a t, true) else (0, false)

theorem OA_t {o r a t : Int} (h : OAok o r a t = true) : OA o r a t = (OAv o r a t, true) := by unfold OA; rw [if_pos h]
theorem OA_f {o r a t : Int} (h : ¬ OAok o r a t = true) : OA o r a t = (0, false) := by unfold OA; rw [if_neg h]

theorem OAok_iff (o r a t : Int) : OAok o r a t = true ↔ ((-1000000 ≤ o ∧ o ≤ 1000000) ∧ (-500000 ≤ r ∧ r ≤ 500000) ∧ (0 ≤ a ∧ a ≤ 3786479999)) ∧ (a ≤ t ∧ t ≤ a + 100000 ∧ t ≤ 3786479999) := by
  unfold OAok
  rw [Bool.and_eq_true, VC_iff, decide_eq_true_eq]
  have h : t ≤ mn (a + 100000) 3786479999 ↔ t ≤ a + 100000 ∧ t ≤ 3786479999 := by
    unfold mn; split <;> constructor <;> intro h <;> first | omega | exact ⟨by omega, by omega⟩
  rw [h]

theorem mulb {r d : Int} (h1 : -500000 ≤ r) (h2 : r ≤ 500000) (h3 : 0 ≤ d) (h4 : d ≤ 100000) : -50000000000 ≤ r * d ∧ r * d ≤ 50000000000 := by
  have a := Int.mul_le_mul_of_nonneg_right h2 h3
  have b := Int.mul_le_mul_of_nonneg_right h1 h3
  omega

theorem OAv_rng {o r a t : Int} (h : OAok o r a t = true) : -60000000 ≤ OAv o r a t ∧ OAv o r a t ≤ 60000000 := by
  obtain ⟨⟨h1, h2, h3⟩, h4⟩ := (OAok_iff _ _ _ _).1 h
  have hb := mulb (d := t - a) h2.1 h2.2 (by omega) (by omega)
  unfold OAv
  omega

theorem iOffsetAt_eq (o r a t : Int) : impl_OffsetAt.f o r a t = some (OA o r a t) := by
  unfold impl_OffsetAt.f
  rw [iValidClock_eq]; simp only [Option.bind_some]
  by_cases h : VC o r a = true
  · rw [if_pos h]
    obtain ⟨h1, h2, h3⟩ := (VC_iff _ _ _).1 h
    unfold impl_Clock_lastTime.f
    simp only [Option.bind_some, within_eq]
    rw [w64 (x := a + 100000) (by omega) (by omega)]
    by_cases h4 : a ≤ t ∧ t ≤ mn (a + 100000) 3786479999
    · have hok : OAok o r a t = true := by unfold OAok; rw [h, decide_eq_true h4]; rfl
      obtain ⟨_, h5⟩ := (OAok_iff _ _ _ _).1 hok
      have hb := mulb (d := t - a) h2.1 h2.2 (by omega) (by omega)
      rw [if_pos (decide_eq_true h4), OA_t hok]
      unfold impl_Clock_offsetAt.f impl_floor.f OAv
      rw [w64 (x := t - a) (by omega) (by omega), w64 (x := r * (t - a)) (by omega) (by omega), if_neg (by omega), floor_eq (by omega) (by omega) (by omega)]
      simp only [Option.bind_some]
      rw [w64 (by omega) (by omega)]
    · have hok : ¬ OAok o r a t = true := by unfold OAok; rw [h, decide_eq_false h4]; decide
      rw [if_neg (by rw [decide_eq_false h4]; decide), OA_f hok]
  · have hok : ¬ OAok o r a t = true := by unfold OAok; intro e; rw [Bool.and_eq_true] at e; exact h e.1
    rw [if_neg h, OA_f hok]

theorem mn_comm (a b : Int) : mn a b = mn b a := by unfold mn; repeat' split <;> omega

theorem sOffsetAt_eq (o r a t : Int) : spec_OffsetAt.f o r a t = some (OA o r a t) := by
  unfold spec_OffsetAt.f
  rw [sValidClock_eq]; simp only [Option.bind_some]
  by_cases h : VC o r a = true
  · rw [if_pos h]
    obtain ⟨h1, h2, h3⟩ := (VC_iff _ _ _).1 h
    simp only [inRange_eq, Option.bind_some]
    rw [w64 (x := a + 100000) (by omega) (by omega), mn_comm]
    by_cases h4 : a ≤ t ∧ t ≤ mn (a + 100000) 3786479999
    · have hok : OAok o r a t = true := by unfold OAok; rw [h, decide_eq_true h4]; rfl
      obtain ⟨_, h5⟩ := (OAok_iff _ _ _ _).1 hok
      have hb := mulb (d := t - a) h2.1 h2.2 (by omega) (by omega)
      rw [if_pos (decide_eq_true h4), OA_t hok]
      unfold spec_drift.f spec_floorDiv.f OAv
      rw [w64 (x := t - a) (by omega) (by omega), w64 (x := r * (t - a)) (by omega) (by omega), if_neg (by omega), floor_eq (by omega) (by omega) (by omega)]
      simp only [Option.bind_some]
      rw [w64 (by omega) (by omega)]
    · have hok : ¬ OAok o r a t = true := by unfold OAok; rw [h, decide_eq_false h4]; decide
      rw [if_neg (by rw [decide_eq_false h4]; decide), OA_f hok]
  · have hok : ¬ OAok o r a t = true := by unfold OAok; intro e; rw [Bool.and_eq_true] at e; exact h e.1
    rw [if_neg h, OA_f hok]

def lim (n m : Int) : Int := mn (mx n (-m)) m
def SCok (o r a t f : Int) : Bool := OAok o r a t && decide (-1000000 ≤ f ∧ f ≤ 1000000)
def SCv (o r a t f : Int) : Int × Int × Int × Bool :=
  if mx f (-f) > 128000 then (lim (OAv o r a t - f) 1000000, r, t, true)
  else (lim (OAv o r a t - f / 4) 1000000, lim (r - f * 1000 / 4096) 500000, t, true)
def SC (o r a t f : Int) : Int × Int × Int × Bool := if SCok o r a t f = true then SCv o r a t f else (0, 0, 0, false)

theorem SC_t {o r a t f : Int} (h : SCok o r a t f = true) : SC o r a t f = SCv o r a t f := by unfold SC; rw [if_pos h]
theorem SC_f {o r a t f : Int} (h : ¬ SCok o r a t f = true) : SC o r a t f = (0, 0, 0, false) := by unfold SC; rw [if_neg h]
theorem SCok_iff (o r a t f : Int) : SCok o r a t f = true ↔ OAok o r a t = true ∧ (-1000000 ≤ f ∧ f ≤ 1000000) := by
  unfold SCok; rw [Bool.and_eq_true, decide_eq_true_eq]

theorem lim_rng (n m : Int) (h : 0 ≤ m) : -m ≤ lim n m ∧ lim n m ≤ m := by
  unfold lim mn mx; constructor <;> repeat' split <;> omega

theorem SCv_true (o r a t f : Int) : (SCv o r a t f).2.2.2 = true := by unfold SCv; split <;> rfl
theorem SCv_at (o r a t f : Int) : (SCv o r a t f).2.2.1 = t := by unfold SCv; split <;> rfl

theorem iStep_j0 (o r a t f : Int) (k : Nat) (h : SCok o r a t f = true) : impl_StepClock.j0 (k + 1) t f (OAv o r a t) false o r a = some (SCv o r a t f) := by
  obtain ⟨h1, h2⟩ := (SCok_iff _ _ _ _ _).1 h
  obtain ⟨⟨g1, g2, g3⟩, _⟩ := (OAok_iff _ _ _ _).1 h1
  have hv := OAv_rng h1
  generalize hV : OAv o r a t = V at hv
  unfold SCv
  rw [hV]
  simp only [impl_StepClock.j0]
  rw [if_neg (by decide)]
  unfold impl_apart.f impl_limited.f impl_floor.f
  simp only [Option.bind_some, Int.sub_zero, Int.zero_sub]
  rw [w64 (x := f) (by omega) (by omega), w64 (x := -f) (by omega) (by omega)]
  by_cases hm : mx f (-f) > 128000
  · rw [if_pos hm, if_pos hm, w64 (x := V - f) (by omega) (by omega), w64 (by omega) (by omega)]
    rfl
  · rw [if_neg hm, if_neg hm]
    rw [if_neg (show ¬ (4 : Int) = 0 by omega), if_neg (show ¬ (4096 : Int) = 0 by omega), floor_eq (a := f) (b := 4) (by omega) (by omega) (by omega), w64 (x := f * 1000) (by omega) (by omega), floor_eq (a := f * 1000) (b := 4096) (by omega) (by omega) (by omega)]
    simp only [Option.bind_some]
    rw [w64 (x := V - f / 4) (by omega) (by omega), w64 (x := r - f * 1000 / 4096) (by omega) (by omega), w64 (x := -1000000) (by omega) (by omega), w64 (x := -500000) (by omega) (by omega)]
    rfl

theorem lim_other (n m : Int) (h : 0 ≤ m) : mx (-m) (mn m n) = lim n m := by
  unfold lim mn mx; repeat' split <;> omega

theorem sStep_j0 (o r a t f : Int) (k : Nat) (h : SCok o r a t f = true) : spec_StepClock.j0 (k + 1) t f (OAv o r a t) false o r a = some (SCv o r a t f) := by
  obtain ⟨h1, h2⟩ := (SCok_iff _ _ _ _ _).1 h
  obtain ⟨⟨g1, g2, g3⟩, _⟩ := (OAok_iff _ _ _ _).1 h1
  have hv := OAv_rng h1
  generalize hV : OAv o r a t = V at hv
  unfold SCv
  rw [hV]
  simp only [spec_StepClock.j0]
  rw [if_neg (by decide)]
  unfold spec_size.f spec_limitTo.f spec_floorDiv.f
  simp only [Option.bind_some]
  rw [w64 (x := -f) (by omega) (by omega)]
  by_cases hm : mx f (-f) > 128000
  · rw [if_pos hm, if_pos hm, w64 (x := V - f) (by omega) (by omega), w64 (x := -1000000) (by omega) (by omega), lim_other _ _ (by omega)]
  · rw [if_neg hm, if_neg hm]
    rw [if_neg (show ¬ (4 : Int) = 0 by omega), if_neg (show ¬ (4096 : Int) = 0 by omega), floor_eq (a := f) (b := 4) (by omega) (by omega) (by omega), w64 (x := f * 1000) (by omega) (by omega), floor_eq (a := f * 1000) (b := 4096) (by omega) (by omega) (by omega)]
    simp only [Option.bind_some]
    rw [w64 (x := V - f / 4) (by omega) (by omega), w64 (x := r - f * 1000 / 4096) (by omega) (by omega), w64 (x := -1000000) (by omega) (by omega), w64 (x := -500000) (by omega) (by omega), lim_other _ _ (by omega), lim_other _ _ (by omega)]

theorem iStepClock_eq (o r a t f : Int) (k : Nat) : impl_StepClock.f (k + 1) o r a t f = some (SC o r a t f) := by
  unfold impl_StepClock.f impl_isOffset.f
  simp only [iOffsetAt_eq, within_eq, Option.bind_some]
  by_cases h1 : OAok o r a t = true
  · rw [OA_t h1]
    simp only
    rw [if_pos (by trivial)]
    by_cases h2 : -1000000 ≤ f ∧ f ≤ 1000000
    · have hok : SCok o r a t f = true := (SCok_iff _ _ _ _ _).2 ⟨h1, h2⟩
      rw [decide_eq_true h2, SC_t hok]
      exact iStep_j0 o r a t f k hok
    · have hok : ¬ SCok o r a t f = true := fun e => h2 ((SCok_iff _ _ _ _ _).1 e).2
      rw [decide_eq_false h2, SC_f hok]
      simp only [impl_StepClock.j0]
      rfl
  · have hok : ¬ SCok o r a t f = true := fun e => h1 ((SCok_iff _ _ _ _ _).1 e).1
    rw [OA_f h1, SC_f hok]
    simp only
    rw [if_neg (by decide)]
    simp only [impl_StepClock.j0]
    rfl

theorem sStepClock_eq (o r a t f : Int) (k : Nat) : spec_StepClock.f (k + 1) o r a t f = some (SC o r a t f) := by
  unfold spec_StepClock.f
  simp only [sOffsetAt_eq, inRange_eq, Option.bind_some]
  by_cases h1 : OAok o r a t = true
  · rw [OA_t h1]
    simp only
    rw [if_pos (by trivial)]
    by_cases h2 : -1000000 ≤ f ∧ f ≤ 1000000
    · have hok : SCok o r a t f = true := (SCok_iff _ _ _ _ _).2 ⟨h1, h2⟩
      rw [decide_eq_true h2, SC_t hok]
      exact sStep_j0 o r a t f k hok
    · have hok : ¬ SCok o r a t f = true := fun e => h2 ((SCok_iff _ _ _ _ _).1 e).2
      rw [decide_eq_false h2, SC_f hok]
      simp only [spec_StepClock.j0]
      rfl
  · have hok : ¬ SCok o r a t f = true := fun e => h1 ((SCok_iff _ _ _ _ _).1 e).1
    rw [OA_f h1, SC_f hok]
    simp only
    rw [if_neg (by decide)]
    simp only [spec_StepClock.j0]
    rfl

theorem FnExactStepClock : ∀ (a0_0 : Int) (a0_1 : Int) (a0_2 : Int) (a1 : Int) (a2 : Int), (Lit.int .i64 a0_0).wf = true → (Lit.int .i64 a0_1).wf = true → (Lit.int .i64 a0_2).wf = true → (Lit.int .i64 a1).wf = true → (Lit.int .i64 a2).wf = true → ∃ k, laws_FnExactStepClock.f k a0_0 a0_1 a0_2 a1 a2 = some true := by
  intro o r a t f _ _ _ _ _
  refine ⟨0 + 1, ?_⟩
  unfold laws_FnExactStepClock.f laws_toClock.f
  simp only [Option.bind_some, iStepClock_eq, sStepClock_eq]
  unfold laws_eqClock.f
  simp

end Go.Proofs.Ytedmfipncmkfcaa.Pure
