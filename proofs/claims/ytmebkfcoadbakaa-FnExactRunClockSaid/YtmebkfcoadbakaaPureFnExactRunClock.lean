/- The program's RunClock returns what the reference's returns, for all clocks and samples, and leaves its argument as it was. For every input; no condition. -/
import Derived.Test.YtmebkfcoadbakaaPAllx8
import Derived.Test.YtmebkfcoadbakaaBase
namespace Go.Proofs.Ytmebkfcoadbakaa.Pure
open Go.RowKit Go.Proofs.Ytmebkfcoadbakaa.PAll Go.Proofs.YtmebkfcoadbakaaW.PrintWords Go.Proofs.YtmebkfcoadbakaaW.PrintLast Go.Proofs.YtmebkfcoadbakaaW.PrintMore Go.Proofs.Ytmebkfcoadbakaa.Base
set_option linter.unusedVariables false
set_option linter.unusedSimpArgs false

abbrev Sm := S40

theorem wsucc {i : Nat} (h : i < 1152921504606846976) : wrap64 ((i : Int) + 1) = ((i + 1 : Nat) : Int) := by
  rw [w64 (by omega) (by omega)]; omega

theorem rdM {l : List Sm} {i : Nat} (h : i < l.length) : rd_T40 l (i : Int) = l[i] := by
  unfold rd_T40
  rw [Int.toNat_natCast, List.getD_eq_getElem?_getD, List.getElem?_eq_getElem h]; rfl

/-- Valid samples. -/
def vls (l : List Sm) : Bool := smpsOk (-1) l && decide (1 ≤ l.length ∧ l.length ≤ 8)
theorem iV_eq (l : List Sm) : impl_ValidSamples.f l = some (vls l) := rfl
theorem sV_eq (l : List Sm) : spec_validSamples.f l = some (vls l) := rfl

theorem vls_iff (l : List Sm) : vls l = true ↔ smpsOk (-1) l = true ∧ 1 ≤ l.length ∧ l.length ≤ 8 := by
  unfold vls; rw [Bool.and_eq_true, decide_eq_true_eq]

theorem smps_cons (p : Int) (s : Sm) (l : List Sm) : smpsOk p (s :: l) = true ↔ ((-1000000 ≤ s.f0 ∧ s.f0 ≤ 1000000) ∧ (0 ≤ s.f1 ∧ s.f1 ≤ 1000000) ∧ (0 ≤ s.f2 ∧ s.f2 ≤ 3786479999) ∧ p < s.f2) ∧ smpsOk s.f2 l = true := by
  rw [smpsOk.eq_2]
  unfold smpOk
  simp only [Bool.and_eq_true, decide_eq_true_eq]

theorem smps_rng : ∀ (l : List Sm) (p : Int), smpsOk p l = true → ∀ s ∈ l, (-1000000 ≤ s.f0 ∧ s.f0 ≤ 1000000) ∧ (0 ≤ s.f1 ∧ s.f1 ≤ 1000000) ∧ (0 ≤ s.f2 ∧ s.f2 ≤ 3786479999) ∧ p < s.f2
  | [], _, _, _, hs => by cases hs
  | t :: l, p, h, s, hs => by
    obtain ⟨h1, h2⟩ := (smps_cons p t l).1 h
    cases hs with
    | head => exact h1
    | tail _ hs =>
      obtain ⟨a, b, c, d⟩ := smps_rng l t.f2 h2 s hs
      exact ⟨a, b, c, by omega⟩

theorem within_eq (a b c : Int) : impl_within.f a b c = some (decide (b ≤ a ∧ a ≤ c)) := by
  unfold impl_within.f
  by_cases h : b ≤ a
  · rw [if_pos h]; simp [h]
  · rw [if_neg h]; simp [h]

theorem inRange_eq (a b c : Int) : spec_inRange.f a b c = some (decide (b ≤ a ∧ a ≤ c)) := by
  unfold spec_inRange.f
  by_cases h : b ≤ a
  · rw [if_pos h]; simp [h]
  · rw [if_neg h]; simp [h]

/-- A valid clock. -/
def VC (o r a : Int) : Bool := decide (-1000000 ≤ o ∧ o ≤ 1000000) && (decide (-500000 ≤ r ∧ r ≤ 500000) && decide (0 ≤ a ∧ a ≤ 3786479999))

theorem iValidClock_eq (o r a : Int) : impl_ValidClock.f o r a = some (VC o r a) := by
  unfold impl_ValidClock.f impl_isOffset.f impl_isTime.f VC
  simp only [within_eq, Option.bind_some]
  by_cases h1 : -1000000 ≤ o ∧ o ≤ 1000000 <;> by_cases h2 : -500000 ≤ r ∧ r ≤ 500000 <;> simp [h1, h2]

theorem sValidClock_eq (o r a : Int) : spec_validClock.f o r a = some (VC o r a) := by
  unfold spec_validClock.f VC
  simp only [inRange_eq, Option.bind_some]
  by_cases h1 : -1000000 ≤ o ∧ o ≤ 1000000 <;> by_cases h2 : -500000 ≤ r ∧ r ≤ 500000 <;> simp [h1, h2]

theorem VC_iff (o r a : Int) : VC o r a = true ↔ (-1000000 ≤ o ∧ o ≤ 1000000) ∧ (-500000 ≤ r ∧ r ≤ 500000) ∧ (0 ≤ a ∧ a ≤ 3786479999) := by
  unfold VC; simp

/-- The arguments at which OffsetAt tells an offset; the offset. -/
def OAok (o r a t : Int) : Bool := VC o r a && decide (a ≤ t ∧ t ≤ mn (a + 100000) 3786479999)
def OAv (o r a t : Int) : Int := o + r * (t - a) / 1000
def OA (o r a t : Int) : Int × Bool := if OAok o r a t = true then (OAv o r a t, true) else (0, false)

theorem OA_t {o r a t : Int} (h : OAok o r a t = true) : OA o r a t = (OAv o r a t, true) := by unfold OA; rw [if_pos h]
theorem OA_f {o r a t : Int} (h : ¬ OAok o r a t = true) : OA o r a t = (0, false) := by unfold OA; rw [if_neg h]

theorem OAok_iff (o r a t : Int) : OAok o r a t = true ↔ ((-1000000 ≤ o ∧ o ≤ 1000000) ∧ (-500000 ≤ r ∧ r ≤ 500000) ∧ (0 ≤ a ∧ a ≤ 3786479999)) ∧ (a ≤ t ∧ t ≤ a + 100000 ∧ t ≤ 3786479999) := by
  unfold OAok
  rw [Bool.and_eq_true, VC_iff, decide_eq_true_eq]
  have h : t ≤ mn (a + 100000) 3786479999 ↔ t ≤ a + 100000 ∧ t ≤ 3786479999 := by
    unfold mn; split <;> constructor <;> intro h <;> first | omega | exact ⟨by omega, by omega⟩
  rw [h]

theorem mulb {r d : Int} (h1 : -500000 ≤ r) (h2 : r ≤ 500000) (h3 : 0 ≤ d) (h4 : d ≤ 100000) : -50000000000 ≤ r * d ∧ r * d ≤ 50000000000 := by
  have a := Int.mul_le_mul_of_nonneg_right h2 h3
  have b := Int.mul_le_mul_of_nonneg_right h1 h3
  omega

theorem OAv_rng {o r a t : Int} (h : OAok o r a t = true) : -60000000 ≤ OAv o r a t ∧ OAv o r a t ≤ 60000000 := by
  obtain ⟨⟨h1, h2, h3⟩, h4⟩ := (OAok_iff _ _ _ _).1 h
  have hb := mulb (d := t - a) h2.1 h2.2 (by omega) (by omega)
  unfold OAv
  omega

theorem iOffsetAt_eq (o r a t : Int) : impl_OffsetAt.f o r a t = some (OA o r a t) := by
  unfold impl_OffsetAt.f
  rw [iValidClock_eq]; simp only [Option.bind_some]
  by_cases h : VC o r a = true
  · rw [if_pos h]
    obtain ⟨h1, h2, h3⟩ := (VC_iff _ _ _).1 h
    unfold impl_Clock_lastTime.f
    simp only [Option.bind_some, within_eq]
    rw [w64 (x := a + 100000) (by omega) (by omega)]
    by_cases h4 : a ≤ t ∧ t ≤ mn (a + 100000) 3786479999
    · have hok : OAok o r a t = true := by unfold OAok; rw [h, decide_eq_true h4]; rfl
      obtain ⟨_, h5⟩ := (OAok_iff _ _ _ _).1 hok
      have hb := mulb (d := t - a) h2.1 h2.2 (by omega) (by omega)
      rw [if_pos (decide_eq_true h4), OA_t hok]
      unfold impl_Clock_offsetAt.f impl_floor.f OAv
      rw [w64 (x := t - a) (by omega) (by omega), w64 (x := r * (t - a)) (by omega) (by omega), if_neg (by omega), floor_eq (by omega) (by omega) (by omega)]
      simp only [Option.bind_some]
      rw [w64 (by omega) (by omega)]
    · have hok : ¬ OAok o r a t = true := by unfold OAok; rw [h, decide_eq_false h4]; decide
      rw [if_neg (by rw [decide_eq_false h4]; decide), OA_f hok]
  · have hok : ¬ OAok o r a t = true := by unfold OAok; intro e; rw [Bool.and_eq_true] at e; exact h e.1
    rw [if_neg h, OA_f hok]

theorem mn_comm (a b : Int) : mn a b = mn b a := by unfold mn; repeat' split <;> omega

theorem sOffsetAt_eq (o r a t : Int) : spec_OffsetAt.f o r a t = some (OA o r a t) := by
  unfold spec_OffsetAt.f
  rw [sValidClock_eq]; simp only [Option.bind_some]
  by_cases h : VC o r a = true
  · rw [if_pos h]
    obtain ⟨h1, h2, h3⟩ := (VC_iff _ _ _).1 h
    simp only [inRange_eq, Option.bind_some]
    rw [w64 (x := a + 100000) (by omega) (by omega), mn_comm]
    by_cases h4 : a ≤ t ∧ t ≤ mn (a + 100000) 3786479999
    · have hok : OAok o r a t = true := by unfold OAok; rw [h, decide_eq_true h4]; rfl
      obtain ⟨_, h5⟩ := (OAok_iff _ _ _ _).1 hok
      have hb := mulb (d := t - a) h2.1 h2.2 (by omega) (by omega)
      rw [if_pos (decide_eq_true h4), OA_t hok]
      unfold spec_drift.f spec_floorDiv.f OAv
      rw [w64 (x := t - a) (by omega) (by omega), w64 (x := r * (t - a)) (by omega) (by omega), if_neg (by omega), floor_eq (by omega) (by omega) (by omega)]
      simp only [Option.bind_some]
      rw [w64 (by omega) (by omega)]
    · have hok : ¬ OAok o r a t = true := by unfold OAok; rw [h, decide_eq_false h4]; decide
      rw [if_neg (by rw [decide_eq_false h4]; decide), OA_f hok]
  · have hok : ¬ OAok o r a t = true := by unfold OAok; intro e; rw [Bool.and_eq_true] at e; exact h e.1
    rw [if_neg h, OA_f hok]

def lim (n m : Int) : Int := mn (mx n (-m)) m
def SCok (o r a t f : Int) : Bool := OAok o r a t && decide (-1000000 ≤ f ∧ f ≤ 1000000)
def SCv (o r a t f : Int) : Int × Int × Int × Bool :=
  if mx f (-f) > 128000 then (lim (OAv o r a t - f) 1000000, r, t, true)
  else (lim (OAv o r a t - f / 4) 1000000, lim (r - f * 1000 / 4096) 500000, t, true)
def SC (o r a t f : Int) : Int × Int × Int × Bool := if SCok o r a t f = true then SCv o r a t f else (0, 0, 0, false)

theorem SC_t {o r a t f : Int} (h : SCok o r a t f = true) : SC o r a t f = SCv o r a t f := by unfold SC; rw [if_pos h]
theorem SC_f {o r a t f : Int} (h : ¬ SCok o r a t f = true) : SC o r a t f = (0, 0, 0, false) := by unfold SC; rw [if_neg h]
theorem SCok_iff (o r a t f : Int) : SCok o r a t f = true ↔ OAok o r a t = true ∧ (-1000000 ≤ f ∧ f ≤ 1000000) := by
  unfold SCok; rw [Bool.and_eq_true, decide_eq_true_eq]

theorem lim_rng (n m : Int) (h : 0 ≤ m) : -m ≤ lim n m ∧ lim n m ≤ m := by
  unfold lim mn mx; constructor <;> repeat' split <;> omega

theorem SCv_true (o r a t f : Int) : (SCv o r a t f).2.2.2 = true := by unfold SCv; split <;> rfl
theorem SCv_at (o r a t f : Int) : (SCv o r a t f).2.2.1 = t := by unfold SCv; split <;> rfl

theorem iStep_j0 (o r a t f : Int) (k : Nat) (h : SCok o r a t f = true) : impl_StepClock.j0 (k + 1) t f (OAv o r a t) false o r a = some (SCv o r a t f) := by
  obtain ⟨h1, h2⟩ := (SCok_iff _ _ _ _ _).1 h
  obtain ⟨⟨g1, g2, g3⟩, _⟩ := (OAok_iff _ _ _ _).1 h1
  have hv := OAv_rng h1
  generalize hV : OAv o r a t = V at hv
  unfold SCv
  rw [hV]
  simp only [impl_StepClock.j0]
  rw [if_neg (by decide)]
  unfold impl_apart.f impl_limited.f impl_floor.f
  simp only [Option.bind_some, Int.sub_zero, Int.zero_sub]
  rw [w64 (x := f) (by omega) (by omega), w64 (x := -f) (by omega) (by omega)]
  by_cases hm : mx f (-f) > 128000
  · rw [if_pos hm, if_pos hm, w64 (x := V - f) (by omega) (by omega), w64 (by omega) (by omega)]
    rfl
  · rw [if_neg hm, if_neg hm]
    rw [if_neg (show ¬ (4 : Int) = 0 by omega), if_neg (show ¬ (4096 : Int) = 0 by omega), floor_eq (a := f) (b := 4) (by omega) (by omega) (by omega), w64 (x := f * 1000) (by omega) (by omega), floor_eq (a := f * 1000) (b := 4096) (by omega) (by omega) (by omega)]
    simp only [Option.bind_some]
    rw [w64 (x := V - f / 4) (by omega) (by omega), w64 (x := r - f * 1000 / 4096) (by omega) (by omega), w64 (x := -1000000) (by omega) (by omega), w64 (x := -500000) (by omega) (by omega)]
    rfl

theorem lim_other (n m : Int) (h : 0 ≤ m) : mx (-m) (mn m n) = lim n m := by
  unfold lim mn mx; repeat' split <;> omega

theorem sStep_j0 (o r a t f : Int) (k : Nat) (h : SCok o r a t f = true) : spec_StepClock.j0 (k + 1) t f (OAv o r a t) false o r a = some (SCv o r a t f) := by
  obtain ⟨h1, h2⟩ := (SCok_iff _ _ _ _ _).1 h
  obtain ⟨⟨g1, g2, g3⟩, _⟩ := (OAok_iff _ _ _ _).1 h1
  have hv := OAv_rng h1
  generalize hV : OAv o r a t = V at hv
  unfold SCv
  rw [hV]
  simp only [spec_StepClock.j0]
  rw [if_neg (by decide)]
  unfold spec_size.f spec_limitTo.f spec_floorDiv.f
  simp only [Option.bind_some]
  rw [w64 (x := -f) (by omega) (by omega)]
  by_cases hm : mx f (-f) > 128000
  · rw [if_pos hm, if_pos hm, w64 (x := V - f) (by omega) (by omega), w64 (x := -1000000) (by omega) (by omega), lim_other _ _ (by omega)]
  · rw [if_neg hm, if_neg hm]
    rw [if_neg (show ¬ (4 : Int) = 0 by omega), if_neg (show ¬ (4096 : Int) = 0 by omega), floor_eq (a := f) (b := 4) (by omega) (by omega) (by omega), w64 (x := f * 1000) (by omega) (by omega), floor_eq (a := f * 1000) (b := 4096) (by omega) (by omega) (by omega)]
    simp only [Option.bind_some]
    rw [w64 (x := V - f / 4) (by omega) (by omega), w64 (x := r - f * 1000 / 4096) (by omega) (by omega), w64 (x := -1000000) (by omega) (by omega), w64 (x := -500000) (by omega) (by omega), lim_other _ _ (by omega), lim_other _ _ (by omega)]

theorem iStepClock_eq (o r a t f : Int) (k : Nat) : impl_StepClock.f (k + 1) o r a t f = some (SC o r a t f) := by
  unfold impl_StepClock.f impl_isOffset.f
  simp only [iOffsetAt_eq, within_eq, Option.bind_some]
  by_cases h1 : OAok o r a t = true
  · rw [OA_t h1]
    simp only
    rw [if_pos (by trivial)]
    by_cases h2 : -1000000 ≤ f ∧ f ≤ 1000000
    · have hok : SCok o r a t f = true := (SCok_iff _ _ _ _ _).2 ⟨h1, h2⟩
      rw [decide_eq_true h2, SC_t hok]
      exact iStep_j0 o r a t f k hok
    · have hok : ¬ SCok o r a t f = true := fun e => h2 ((SCok_iff _ _ _ _ _).1 e).2
      rw [decide_eq_false h2, SC_f hok]
      simp only [impl_StepClock.j0]
      rfl
  · have hok : ¬ SCok o r a t f = true := fun e => h1 ((SCok_iff _ _ _ _ _).1 e).1
    rw [OA_f h1, SC_f hok]
    simp only
    rw [if_neg (by decide)]
    simp only [impl_StepClock.j0]
    rfl

theorem sStepClock_eq (o r a t f : Int) (k : Nat) : spec_StepClock.f (k + 1) o r a t f = some (SC o r a t f) := by
  unfold spec_StepClock.f
  simp only [sOffsetAt_eq, inRange_eq, Option.bind_some]
  by_cases h1 : OAok o r a t = true
  · rw [OA_t h1]
    simp only
    rw [if_pos (by trivial)]
    by_cases h2 : -1000000 ≤ f ∧ f ≤ 1000000
    · have hok : SCok o r a t f = true := (SCok_iff _ _ _ _ _).2 ⟨h1, h2⟩
      rw [decide_eq_true h2, SC_t hok]
      exact sStep_j0 o r a t f k hok
    · have hok : ¬ SCok o r a t f = true := fun e => h2 ((SCok_iff _ _ _ _ _).1 e).2
      rw [decide_eq_false h2, SC_f hok]
      simp only [spec_StepClock.j0]
      rfl
  · have hok : ¬ SCok o r a t f = true := fun e => h1 ((SCok_iff _ _ _ _ _).1 e).1
    rw [OA_f h1, SC_f hok]
    simp only
    rw [if_neg (by decide)]
    simp only [spec_StepClock.j0]
    rfl

/-- A clock after corrections. -/
def RCl : Int → Int → Int → List Sm → Int × Int × Int × Bool
  | o, r, a, [] => (o, r, a, true)
  | o, r, a, s :: l => if (SC o r a s.f2 s.f0).2.2.2 = true then RCl (SC o r a s.f2 s.f0).1 (SC o r a s.f2 s.f0).2.1 (SC o r a s.f2 s.f0).2.2.1 l else (0, 0, 0, false)
def RCok (o r a : Int) (l : List Sm) : Bool := VC o r a && (decide (l.length = 0) || vls l)
def RC (o r a : Int) (l : List Sm) : Int × Int × Int × Bool := if RCok o r a l = true then RCl o r a l else (0, 0, 0, false)

theorem RC_t {o r a : Int} {l : List Sm} (h : RCok o r a l = true) : RC o r a l = RCl o r a l := by unfold RC; rw [if_pos h]
theorem RC_f {o r a : Int} {l : List Sm} (h : ¬ RCok o r a l = true) : RC o r a l = (0, 0, 0, false) := by unfold RC; rw [if_neg h]
theorem RCok_iff (o r a : Int) (l : List Sm) : RCok o r a l = true ↔ VC o r a = true ∧ (l.length = 0 ∨ vls l = true) := by
  unfold RCok; rw [Bool.and_eq_true, Bool.or_eq_true, decide_eq_true_eq]

theorem iRun_l0 (l : List Sm) (hl : l.length ≤ 1152921504606846975) : ∀ (k i : Nat) (o r a : Int), i ≤ l.length → l.length - i + 1 < k →
    impl_RunClock.l0 k l (l.length : Int) (i : Int) o r a = some (RCl o r a (l.drop i)) := by
  intro k
  induction k with
  | zero => intro i _ _ _ _ hk; omega
  | succ k ih =>
    intro i o r a hi hk
    simp only [impl_RunClock.l0]
    by_cases hlt : i < l.length
    · obtain ⟨m, rfl⟩ : ∃ m, k = m + 1 := ⟨k - 1, by omega⟩
      rw [if_pos (by omega), if_pos (by omega), if_pos (by omega), rdM hlt, iStepClock_eq, wsucc (by omega), List.drop_eq_getElem_cons hlt]
      simp only [Option.bind_some]
      rw [RCl.eq_2]
      by_cases hc : (SC o r a l[i].f2 l[i].f0).2.2.2 = true
      · rw [if_pos hc, if_pos hc]
        exact ih (i + 1) _ _ _ (by omega) (by omega)
      · rw [if_neg hc, if_neg hc]
    · have e : i = l.length := by omega
      rw [if_neg (by omega), e, List.drop_length]
      rfl

theorem sRun_l0 (l : List Sm) (hl : l.length ≤ 1152921504606846975) : ∀ (k i : Nat) (o r a : Int), i ≤ l.length → l.length - i + 1 < k →
    spec_RunClock.l0 k l (i : Int) o r a = some (RCl o r a (l.drop i)) := by
  intro k
  induction k with
  | zero => intro i _ _ _ _ hk; omega
  | succ k ih =>
    intro i o r a hi hk
    simp only [spec_RunClock.l0]
    by_cases hlt : i < l.length
    · obtain ⟨m, rfl⟩ : ∃ m, k = m + 1 := ⟨k - 1, by omega⟩
      rw [if_pos (by omega), if_pos (by omega), rdM hlt, sStepClock_eq, wsucc (by omega), List.drop_eq_getElem_cons hlt]
      simp only [Option.bind_some]
      rw [RCl.eq_2]
      by_cases hc : (SC o r a l[i].f2 l[i].f0).2.2.2 = true
      · rw [if_pos hc, if_pos hc]
        exact ih (i + 1) _ _ _ (by omega) (by omega)
      · rw [if_neg hc, if_neg hc]
    · have e : i = l.length := by omega
      rw [if_neg (by omega), e, List.drop_length]
      rfl

theorem iRun_j0 {l : List Sm} (hl : l.length ≤ 1152921504606846975) {k : Nat} (hk : l.length + 2 < k) (o r a : Int) (b : Bool) :
    impl_RunClock.j0 k l b o r a = some (if b = true then (0, 0, 0, false) else RCl o r a l) := by
  obtain ⟨k, rfl⟩ : ∃ m, k = m + 1 := ⟨k - 1, by omega⟩
  simp only [impl_RunClock.j0]
  cases b with
  | true => rw [if_pos (by trivial), if_pos (by trivial)]
  | false =>
    rw [if_neg (by decide), if_neg (by decide)]
    have h := iRun_l0 l hl k 0 o r a (by omega) (by omega)
    rw [List.drop_zero] at h
    exact h

theorem sRun_j0 {l : List Sm} (hl : l.length ≤ 1152921504606846975) {k : Nat} (hk : l.length + 2 < k) (o r a : Int) (b : Bool) :
    spec_RunClock.j0 k l b o r a = some (if b = true then (0, 0, 0, false) else RCl o r a l) := by
  obtain ⟨k, rfl⟩ : ∃ m, k = m + 1 := ⟨k - 1, by omega⟩
  simp only [spec_RunClock.j0]
  cases b with
  | true => rw [if_pos (by trivial), if_pos (by trivial)]
  | false =>
    rw [if_neg (by decide), if_neg (by decide)]
    have h := sRun_l0 l hl k 0 o r a (by omega) (by omega)
    rw [List.drop_zero] at h
    exact h

theorem iRun_eq {l : List Sm} (hl : l.length ≤ 1152921504606846975) {k : Nat} (hk : l.length + 2 < k) (o r a : Int) :
    impl_RunClock.f k o r a l = some (RC o r a l) := by
  unfold impl_RunClock.f RC RCok
  rw [iValidClock_eq, iV_eq]; simp only [Option.bind_some]
  rw [iRun_j0 hl hk, iRun_j0 hl hk, iRun_j0 hl hk]
  by_cases h1 : VC o r a = true
  · rw [if_pos h1, h1]
    by_cases h2 : l.length = 0
    · rw [if_neg (by omega), decide_eq_true h2, if_neg (by decide), if_pos (by trivial)]
    · rw [if_pos (by omega), decide_eq_false h2]
      cases vls l <;> rfl
  · rw [if_neg h1, eq_false_of_ne_true h1]; rfl

theorem sRun_eq {l : List Sm} (hl : l.length ≤ 1152921504606846975) {k : Nat} (hk : l.length + 2 < k) (o r a : Int) :
    spec_RunClock.f k o r a l = some (RC o r a l) := by
  unfold spec_RunClock.f RC RCok
  rw [sValidClock_eq, sV_eq]; simp only [Option.bind_some]
  rw [sRun_j0 hl hk, sRun_j0 hl hk, sRun_j0 hl hk]
  by_cases h1 : VC o r a = true
  · rw [if_pos h1, h1]
    by_cases h2 : l.length = 0
    · rw [if_neg (by omega), decide_eq_true h2, if_neg (by decide), if_pos (by trivial)]
    · rw [if_pos (by omega), decide_eq_false h2]
      cases vls l <;> rfl
  · rw [if_neg h1, eq_false_of_ne_true h1]; rfl

theorem SC_VC {o r a t f : Int} (h : (SC o r a t f).2.2.2 = true) : VC (SC o r a t f).1 (SC o r a t f).2.1 (SC o r a t f).2.2.1 = true := by
  by_cases hok : SCok o r a t f = true
  · obtain ⟨h1, h2⟩ := (SCok_iff _ _ _ _ _).1 hok
    obtain ⟨⟨ha, hb, hc⟩, hd, he, hf⟩ := (OAok_iff _ _ _ _).1 h1
    rw [SC_t hok]
    unfold SCv
    split
    · exact (VC_iff _ _ _).2 ⟨lim_rng _ 1000000 (by omega), hb, by show 0 ≤ t ∧ t ≤ 3786479999; omega⟩
    · exact (VC_iff _ _ _).2 ⟨lim_rng _ 1000000 (by omega), lim_rng _ 500000 (by omega), by show 0 ≤ t ∧ t ≤ 3786479999; omega⟩
  · rw [SC_f hok] at h; cases h

theorem RCl_VC : ∀ (l : List Sm) (o r a : Int), VC o r a = true → (RCl o r a l).2.2.2 = true → VC (RCl o r a l).1 (RCl o r a l).2.1 (RCl o r a l).2.2.1 = true
  | [], o, r, a, h, _ => h
  | s :: l, o, r, a, h, hq => by
    rw [RCl.eq_2] at hq ⊢
    by_cases hc : (SC o r a s.f2 s.f0).2.2.2 = true
    · rw [if_pos hc] at hq ⊢
      exact RCl_VC l _ _ _ (SC_VC hc) hq
    · rw [if_neg hc] at hq; cases hq

theorem RCl_append : ∀ (l m : List Sm) (o r a : Int), RCl o r a (l ++ m) = if (RCl o r a l).2.2.2 = true then RCl (RCl o r a l).1 (RCl o r a l).2.1 (RCl o r a l).2.2.1 m else (0, 0, 0, false)
  | [], m, o, r, a => rfl
  | s :: l, m, o, r, a => by
    rw [List.cons_append, RCl.eq_2, RCl.eq_2]
    by_cases hc : (SC o r a s.f2 s.f0).2.2.2 = true
    · rw [if_pos hc, if_pos hc]
      exact RCl_append l m _ _ _
    · rw [if_neg hc, if_neg hc, if_neg (by decide)]

abbrev LSm := S45
def cv (s : LSm) : Sm := ⟨s.f0, s.f1, s.f2⟩

theorem rdL {l : List LSm} {i : Nat} (h : i < l.length) : rd_T45 l (i : Int) = l[i] := by
  unfold rd_T45
  rw [Int.toNat_natCast, List.getD_eq_getElem?_getD, List.getElem?_eq_getElem h]; rfl

theorem to_l0 (x : List LSm) (hx : x.length ≤ 1048576) : ∀ (k i : Nat) (acc : List Sm), acc.length = x.length → i ≤ x.length → x.length - i < k →
    laws_toSampleS.l0 k x acc (i : Int) = some (acc.take i ++ (x.drop i).map cv) := by
  intro k
  induction k with
  | zero => intro i _ _ _ hk; omega
  | succ k ih =>
    intro i acc ha hi hk
    simp only [laws_toSampleS.l0]
    by_cases hlt : i < x.length
    · rw [if_pos (by omega), if_pos (by omega), rdL hlt]
      unfold laws_toSample.f
      simp only [Option.bind_some]
      rw [if_pos (by omega), Int.toNat_natCast, wsucc (by omega), ih (i + 1) _ (by rw [List.length_set]; exact ha) (by omega) (by omega)]
      rw [List.drop_eq_getElem_cons hlt, List.map_cons, List.take_succ_eq_append_getElem (by rw [List.length_set]; omega), List.getElem_set_self, List.take_set_of_le (Nat.le_refl i), List.append_assoc]
      rfl
    · have e : i = x.length := by omega
      rw [if_neg (by omega), e, List.drop_length, List.map_nil, List.append_nil, ← ha, List.take_length]

theorem to_eq {x : List LSm} (hx : x.length ≤ 1048576) {k : Nat} (hk : x.length < k) : laws_toSampleS.f k x = some (x.map cv) := by
  unfold laws_toSampleS.f
  rw [if_pos (by omega), if_pos (by omega)]
  have h := to_l0 x hx k 0 (List.replicate ((x.length : Int) : Int).toNat z40) (by rw [List.length_replicate, Int.toNat_natCast]) (Nat.zero_le _) (by omega)
  rw [List.take_zero, List.drop_zero, List.nil_append] at h
  exact h

theorem eqM (a b c : Int) : laws_eqSample.f a b c a b c = some true := by
  unfold laws_eqSample.f
  rw [if_pos rfl, if_pos rfl, if_pos rfl]

theorem eqS_l0 (x : List Sm) (hx : x.length ≤ 1048577) : ∀ (k i : Nat), i ≤ x.length → x.length - i < k → laws_eqSampleS.l0 k x x (i : Int) = some true := by
  intro k
  induction k with
  | zero => intro i _ hk; omega
  | succ k ih =>
    intro i hi hk
    simp only [laws_eqSampleS.l0]
    by_cases hlt : i < x.length
    · rw [if_pos (by omega), if_pos (by omega), if_pos (by omega), eqM]
      simp only [Option.bind_some]
      rw [if_pos (by trivial), wsucc (by omega)]
      exact ih (i + 1) (by omega) (by omega)
    · rw [if_neg (by omega)]

theorem eqS_eq {x : List Sm} (hx : x.length ≤ 1048577) {k : Nat} (hk : x.length < k) : laws_eqSampleS.f k x x = some true := by
  unfold laws_eqSampleS.f
  rw [if_pos rfl]
  exact eqS_l0 x hx k 0 (Nat.zero_le _) (by omega)

theorem sz_eq (x : List LSm) (hm : x.length ≤ maxLen) : laws_szSampleS.f x 1048576 = some (if x.length ≤ 1048576 then 1048576 - (x.length : Int) else -1) := by
  unfold laws_szSampleS.f
  unfold maxLen at hm
  rw [w64 (by omega) (by omega)]
  by_cases h : x.length ≤ 1048576
  · rw [if_neg (by omega), if_pos h]
  · rw [if_pos (by omega), if_neg h]

theorem FnExactRunClock : ∀ (a0_0 : Int) (a0_1 : Int) (a0_2 : Int) (l1 : List S45), (Lit.int .i64 a0_0).wf = true → (Lit.int .i64 a0_1).wf = true → (Lit.int .i64 a0_2).wf = true → l1.length ≤ maxLen → ∃ k, laws_FnExactRunClock.f k a0_0 a0_1 a0_2 l1 = some true := by
  intro o r a x _ _ _ hm
  refine ⟨x.length + 3 + 1, ?_⟩
  unfold laws_FnExactRunClock.f
  rw [sz_eq x hm]; simp only [Option.bind_some]
  by_cases h : x.length ≤ 1048576
  · have hl : (x.map cv).length = x.length := List.length_map _
    rw [if_pos h, if_neg (by omega), to_eq h (by omega)]
    unfold laws_toClock.f
    simp only [Option.bind_some]
    rw [sRun_eq (by omega) (by omega), iRun_eq (by omega) (by omega)]
    simp only [Option.bind_some]
    unfold laws_eqClock.f
    rw [if_pos rfl, if_pos rfl, if_pos rfl]
    simp only [Option.bind_some]
    rw [if_pos (by trivial)]
    simp only [laws_FnExactRunClock.j0]
    rw [if_neg (by simp), to_eq h (by omega)]
    simp only [Option.bind_some]
    rw [eqS_eq (by omega) (by omega)]
    rfl
  · rw [if_neg h, if_pos (by omega)]

end Go.Proofs.Ytmebkfcoadbakaa.Pure
