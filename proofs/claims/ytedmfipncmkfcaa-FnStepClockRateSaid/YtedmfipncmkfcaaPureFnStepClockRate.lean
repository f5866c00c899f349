/- Behind StepClock by a small offset that is greater (less) than 0 the rate is not greater (not less); the program's and the reference's StepClock tell the same. For every input; no condition. -/
import Derived.Test.YtedmfipncmkfcaaPAllx16
import Derived.Test.YtedmfipncmkfcaaBase
namespace Go.Proofs.Ytedmfipncmkfcaa.Pure
open Go.RowKit Go.Proofs.Ytedmfipncmkfcaa.PAll Go.Proofs.YtedmfipncmkfcaaW.PrintWords Go.Proofs.YtedmfipncmkfcaaW.PrintLast Go.Proofs.YtedmfipncmkfcaaW.PrintMore Go.Proofs.Ytedmfipncmkfcaa.Base
set_option linter.unusedVariables false
set_option linter.unusedSimpArgs false

/-- What a reader holds: at most 2000 bytes. -/
def Bts (s : List Int) : Prop := (∀ x ∈ s, 0 ≤ x ∧ x ≤ 255) ∧ s.length ≤ 2000

theorem pick_ok {s : List Int} (hs : Bts s) (p n : Int) (k : Nat) (hp : 0 ≤ p) (hp2 : p ≤ 1000000) :
    ∃ v, spec_reader_pick.f (k + 1) s p n = some (v, p + 1) ∧ 0 ≤ v ∧ (1 ≤ n → v < n) := by
  obtain ⟨hs1, hs2⟩ := hs
  unfold spec_reader_pick.f
  have e1 : wrap64 (p + 1) = p + 1 := w64 (by omega) (by omega)
  rw [e1]
  by_cases hn : n < 1
  · rw [if_pos hn]
    exact ⟨0, by simp only [spec_reader_pick.j0, if_true], Int.le_refl _, fun h => by omega⟩
  · rw [if_neg hn]
    by_cases h0 : s.length = 0
    · have hb : ((s.length : Int) == 0) = true := by rw [h0]; rfl
      rw [hb]
      exact ⟨0, by simp only [spec_reader_pick.j0, if_true], Int.le_refl _, fun h => by omega⟩
    · have hb : ((s.length : Int) == 0) = false := by simp; intro h; exact h0 (by rw [h]; rfl)
      rw [hb]
      have e2 : wrap64 (p + 1 - 1) = p := by rw [w64 (by omega) (by omega)]; omega
      have hL : (0 : Int) < s.length := by omega
      simp only [spec_reader_pick.j0]
      rw [if_neg (by simp), e2]
      by_cases h1 : p < (s.length : Int)
      · rw [if_pos h1, if_pos hp, if_neg (by omega)]
        have hr := rd_rng hs1 (by omega) (by omega) p
        rw [w64 (x := rd s p) (by omega) (by omega), tmod_nn hr.1]
        exact ⟨_, rfl, Int.emod_nonneg _ (by omega), fun _ => Int.emod_lt_of_pos _ (by omega)⟩
      · rw [if_neg h1, if_neg (by omega)]
        have e3 : wrap64 (wrap64 (p * 7) + 3) = p * 7 + 3 := by rw [w64 (x := p * 7) (by omega) (by omega), w64 (by omega) (by omega)]
        rw [e3, tmod_nn hp, tmod_nn (a := p * 7 + 3) (by omega), tdiv_nn hp]
        have q0 := Int.emod_nonneg p (b := (s.length : Int)) (by omega)
        have q1 := Int.emod_lt_of_pos p hL
        have q2 := Int.emod_nonneg (p * 7 + 3) (b := (s.length : Int)) (by omega)
        have q3 := Int.emod_lt_of_pos (p * 7 + 3) hL
        have q4 := ediv_rng hp hL
        rw [if_pos q0, if_pos q1, if_pos q2, if_pos q3, if_neg (by omega)]
        have r1 := rd_rng hs1 (by omega) (by omega) (p % (s.length : Int))
        have r2 := rd_rng hs1 (by omega) (by omega) ((p * 7 + 3) % (s.length : Int))
        generalize rd s (p % (s.length : Int)) = u1 at r1 ⊢
        generalize rd s ((p * 7 + 3) % (s.length : Int)) = u2 at r2 ⊢
        generalize p / (s.length : Int) = u3 at q4 ⊢
        have ey : wrap64 (wrap64 (wrap64 (wrap64 (wrap64 u1 * 131) + wrap64 (wrap64 u2 * 1117)) + wrap64 (p * 29)) + wrap64 (wrap64 u3 * 53)) = u1 * 131 + u2 * 1117 + p * 29 + u3 * 53 := by
          rw [w64 (x := u1) (by omega) (by omega), w64 (x := u2) (by omega) (by omega), w64 (x := u3) (by omega) (by omega), w64 (x := u1 * 131) (by omega) (by omega), w64 (x := u2 * 1117) (by omega) (by omega), w64 (x := p * 29) (by omega) (by omega), w64 (x := u3 * 53) (by omega) (by omega), w64 (x := u1 * 131 + u2 * 1117) (by omega) (by omega), w64 (x := u1 * 131 + u2 * 1117 + p * 29) (by omega) (by omega), w64 (by omega) (by omega)]
        rw [ey]
        have hy0 : 0 ≤ u1 * 131 + u2 * 1117 + p * 29 + u3 * 53 := by omega
        have hy1 : u1 * 131 + u2 * 1117 + p * 29 + u3 * 53 < 4611686018427387904 := by omega
        generalize u1 * 131 + u2 * 1117 + p * 29 + u3 * 53 = y at hy0 hy1 ⊢
        rw [tdiv_nn hy0]
        have hz := ediv_rng hy0 (b := 64) (by omega)
        rw [w64 (x := y / 64) (by omega) (by omega)]
        have hx := xor_nn hy0 hy1 hz.1 (by omega)
        rw [tmod_nn hx]
        exact ⟨_, rfl, Int.emod_nonneg _ (by omega), fun _ => Int.emod_lt_of_pos _ (by omega)⟩

theorem one_ok {s : List Int} (hs : Bts s) (p : Int) (l : List Int) (k : Nat) (hl : 0 < l.length) (hp : 0 ≤ p) (hp2 : p ≤ 1000000) :
    ∃ v, spec_reader_one.f (k + 1) s p l = some (v, p + 1) ∧ v ∈ l := by
  obtain ⟨v, h, h0, h1⟩ := pick_ok hs p (l.length : Int) k hp hp2
  have h2 := h1 (by omega)
  refine ⟨rd l v, ?_, ?_⟩
  · unfold spec_reader_one.f
    rw [h]
    simp only [Option.bind_some]
    rw [if_pos h0, if_pos h2]
  · unfold rd
    rw [List.getD_eq_getElem?_getD, List.getElem?_eq_getElem (by omega)]
    exact List.getElem_mem _

theorem new_ok {l : List Int} (h : ∀ x ∈ l, 0 ≤ x ∧ x ≤ 255) : ∃ s, spec_newReader.f l = some (s, 0) ∧ Bts s := by
  unfold spec_newReader.f
  by_cases h1 : (l.length : Int) > 2000
  · rw [if_pos h1, if_pos (by omega)]
    exact ⟨_, rfl, fun x hx => h x (List.mem_of_mem_take hx), by rw [List.length_take]; omega⟩
  · rw [if_neg h1]
    exact ⟨_, rfl, h, by omega⟩

theorem within_eq (a b c : Int) : impl_within.f a b c = some (decide (b ≤ a ∧ a ≤ c)) := by
  unfold impl_within.f
  by_cases h : b ≤ a
  · rw [if_pos h]; simp [h]
  · rw [if_neg h]; simp [h]

theorem inRange_eq (a b c : Int) : spec_inRange.f a b c = some (decide (b ≤ a ∧ a ≤ c)) := by
  unfold spec_inRange.f
  by_cases h : b ≤ a
  · rw [if_pos h]; simp [h]
  · rw [if_neg h]; simp [h]

/-- A valid clock. -/
def VC (o r a : Int) : Bool := decide (-1000000 ≤ o ∧ o ≤ 1000000) && (decide (-500000 ≤ r ∧ r ≤ 500000) && decide (0 ≤ a ∧ a ≤ 3786479999))

theorem iValidClock_eq (o r a : Int) : impl_ValidClock.f o r a = some (VC o r a) := by
  unfold impl_ValidClock.f impl_isOffset.f impl_isTime.f VC
  simp only [within_eq, Option.bind_some]
  by_cases h1 : -1000000 ≤ o ∧ o ≤ 1000000 <;> by_cases h2 : -500000 ≤ r ∧ r ≤ 500000 <;> simp [h1, h2]

theorem sValidClock_eq (o r a : Int) : spec_validClock.f o r a = some (VC o r a) := by
  unfold spec_validClock.f VC
  simp only [inRange_eq, Option.bind_some]
  by_cases h1 : -1000000 ≤ o ∧ o ≤ 1000000 <;> by_cases h2 : -500000 ≤ r ∧ r ≤ 500000 <;> simp [h1, h2]

theorem VC_iff (o r a : Int) : VC o r a = true ↔ (-1000000 ≤ o ∧ o ≤ 1000000) ∧ (-500000 ≤ r ∧ r ≤ 500000) ∧ (0 ≤ a ∧ a ≤ 3786479999) := by
  unfold VC; simp

theorem someOffset_ok {s : List Int} (hs : Bts s) (p : Int) (k : Nat) (hp : 0 ≤ p) (hp2 : p ≤ 900000) :
    ∃ v p', spec_someOffset.f (k + 1) s p = some (v, p') ∧ p ≤ p' ∧ p' ≤ p + 2 := by
  obtain ⟨v, h, _⟩ := pick_ok hs p 250 k hp (by omega)
  unfold spec_someOffset.f
  rw [h]; simp only [Option.bind_some]
  obtain ⟨v2, h2, _⟩ := one_ok hs (p + 1) [0, 1, (-1), 100, (-250), 5000, 128000, 128001, (-128000), 1000000, (-1000000), wrap64 (40 * (wrap64 (v - 125)))] k (by simp) (by omega) (by omega)
  rw [h2]; simp only [Option.bind_some]
  exact ⟨_, _, rfl, by omega, by omega⟩

theorem anyOffset_ok {s : List Int} (hs : Bts s) (p : Int) (k : Nat) (hp : 0 ≤ p) (hp2 : p ≤ 800000) :
    ∃ v p', spec_anyOffset.f (k + 1) s p = some (v, p') ∧ p ≤ p' ∧ p' ≤ p + 3 := by
  obtain ⟨v, h, _⟩ := pick_ok hs p 14 k hp (by omega)
  unfold spec_anyOffset.f
  rw [h]; simp only [Option.bind_some]
  by_cases h0 : v = 0
  · rw [if_pos h0]
    obtain ⟨v2, h2, _⟩ := one_ok hs (p + 1) [1000001, (-1000001)] k (by simp) (by omega) (by omega)
    rw [h2]; simp only [Option.bind_some]
    exact ⟨_, _, rfl, by omega, by omega⟩
  · rw [if_neg h0]
    obtain ⟨v2, p2, h2, _, _⟩ := someOffset_ok hs (p + 1) k (by omega) (by omega)
    rw [h2]; simp only [Option.bind_some]
    exact ⟨_, _, rfl, by omega, by omega⟩

theorem anyClock_ok {s : List Int} (hs : Bts s) (p : Int) (k : Nat) (hp : 0 ≤ p) (hp2 : p ≤ 700000) :
    ∃ a b c p', spec_anyClock.f (k + 1) s p = some (a, b, c, p') ∧ p ≤ p' ∧ p' ≤ p + 10 := by
  obtain ⟨v, p1, h1, l1, u1⟩ := someOffset_ok hs p k hp (by omega)
  unfold spec_anyClock.f
  rw [h1]; simp only [Option.bind_some]
  obtain ⟨v2, h2, _⟩ := one_ok hs p1 [0, 10, (-10), 1000, (-333), 500000, (-500000), 7] k (by simp) (by omega) (by omega)
  rw [h2]; simp only [Option.bind_some]
  obtain ⟨v3, h3, _⟩ := pick_ok hs (p1 + 1) 100 k (by omega) (by omega)
  rw [h3]; simp only [Option.bind_some]
  obtain ⟨v4, h4, _⟩ := pick_ok hs (p1 + 1 + 1) 16 k (by omega) (by omega)
  rw [h4]; simp only [Option.bind_some]
  by_cases h0 : v4 = 0
  · rw [if_pos h0]
    obtain ⟨v5, p5, h5, l5, u5⟩ := anyOffset_ok hs (p1 + 1 + 1 + 1) k (by omega) (by omega)
    rw [h5]; simp only [Option.bind_some]
    obtain ⟨v6, h6, _⟩ := one_ok hs p5 [0, 500001] k (by simp) (by omega) (by omega)
    rw [h6]; simp only [Option.bind_some]
    obtain ⟨v7, h7, _⟩ := one_ok hs (p5 + 1) [(-1), 5, 3786479999] k (by simp) (by omega) (by omega)
    rw [h7]; simp only [Option.bind_some]
    exact ⟨_, _, _, _, rfl, by omega, by omega⟩
  · rw [if_neg h0]
    exact ⟨_, _, _, _, rfl, by omega, by omega⟩

theorem drawOffsetAt_ok {l : List Int} (h : ∀ x ∈ l, 0 ≤ x ∧ x ≤ 255) (k : Nat) : ∃ a b c t, spec_DrawOffsetAt.f (k + 1) l = some (a, b, c, t) := by
  obtain ⟨s, h1, hs⟩ := new_ok h
  unfold spec_DrawOffsetAt.f
  rw [h1]; simp only [Option.bind_some]
  obtain ⟨a, b, c, p, h2, l2, u2⟩ := anyClock_ok hs 0 k (by omega) (by omega)
  rw [h2]; simp only [Option.bind_some]
  obtain ⟨v3, h3, _⟩ := pick_ok hs p 250 k (by omega) (by omega)
  rw [h3]; simp only [Option.bind_some]
  obtain ⟨v4, h4, _⟩ := one_ok hs (p + 1) [0, 1, 999, 1000, 100000, 100001, (-1), v3] k (by simp) (by omega) (by omega)
  rw [h4]; simp only [Option.bind_some]
  exact ⟨_, _, _, _, rfl⟩

theorem drawStepClock_ok {l : List Int} (h : ∀ x ∈ l, 0 ≤ x ∧ x ≤ 255) (k : Nat) : ∃ a b c t o, spec_DrawStepClock.f (k + 1) l = some (a, b, c, t, o) := by
  obtain ⟨s, h1, hs⟩ := new_ok h
  unfold spec_DrawStepClock.f
  rw [h1]; simp only [Option.bind_some]
  obtain ⟨a, b, c, t, h2⟩ := drawOffsetAt_ok h k
  rw [h2]; simp only [Option.bind_some]
  obtain ⟨v, p, h3, _⟩ := anyOffset_ok hs 0 k (by omega) (by omega)
  rw [h3]; simp only [Option.bind_some]
  exact ⟨_, _, _, _, _, rfl⟩

/-- The arguments at which OffsetAt tells an offset; the offset. -/
def OAok (o r a t : Int) : Bool := VC o r a && decide (a ≤ t ∧ t ≤ mn (a + 100000) 3786479999)
def OAv (o r a t : Int) : Int := o + r * (t - a) / 1000
def OA (o r a t : Int) : Int × Bool := if OAok o r a t = true then (OAv o r a t, true) else (0, false)

theorem OA_t {o r a t : Int} (h : OAok o r a t = true) : OA o r a t = (OAv o r a t, true) := by unfold OA; rw [if_pos h]
theorem OA_f {o r a t : Int} (h : ¬ OAok o r a t = true) : OA o r a t = (0, false) := by unfold OA; rw [if_neg h]

theorem OAok_iff (o r a t : Int) : OAok o r a t = true ↔ ((-1000000 ≤ o ∧ o ≤ 1000000) ∧ (-500000 ≤ r ∧ r ≤ 500000) ∧ (0 ≤ a ∧ a ≤ 3786479999)) ∧ (a ≤ t ∧ t ≤ a + 100000 ∧ t ≤ 3786479999) := by
  unfold OAok
  rw [Bool.and_eq_true, VC_iff, decide_eq_true_eq]
  have h : t ≤ mn (a + 100000) 3786479999 ↔ t ≤ a + 100000 ∧ t ≤ 3786479999 := by
    unfold mn; split <;> constructor <;> intro h <;> first | omega | exact ⟨by omega, by omega⟩
  rw [h]

theorem mulb {r d : Int} (h1 : -500000 ≤ r) (h2 : r ≤ 500000) (h3 : 0 ≤ d) (h4 : d ≤ 100000) : -50000000000 ≤ r * d ∧ r * d ≤ 50000000000 := by
  have a := Int.mul_le_mul_of_nonneg_right h2 h3
  have b := Int.mul_le_mul_of_nonneg_right h1 h3
  omega

theorem OAv_rng {o r a t : Int} (h : OAok o r a t = true) : -60000000 ≤ OAv o r a t ∧ OAv o r a t ≤ 60000000 := by
  obtain ⟨⟨h1, h2, h3⟩, h4⟩ := (OAok_iff _ _ _ _).1 h
  have hb := mulb (d := t - a) h2.1 h2.2 (by omega) (by omega)
  unfold OAv
  omega

theorem iOffsetAt_eq (o r a t : Int) : impl_OffsetAt.f o r a t = some (OA o r a t) := by
  unfold impl_OffsetAt.f
  rw [iValidClock_eq]; simp only [Option.bind_some]
  by_cases h : VC o r a = true
  · rw [if_pos h]
    obtain ⟨h1, h2, h3⟩ := (VC_iff _ _ _).1 h
    unfold impl_Clock_lastTime.f
    simp only [Option.bind_some, within_eq]
    rw [w64 (x := a + 100000) (by omega) (by omega)]
    by_cases h4 : a ≤ t ∧ t ≤ mn (a + 100000) 3786479999
    · have hok : OAok o r a t = true := by unfold OAok; rw [h, decide_eq_true h4]; rfl
      obtain ⟨_, h5⟩ := (OAok_iff _ _ _ _).1 hok
      have hb := mulb (d := t - a) h2.1 h2.2 (by omega) (by omega)
      rw [if_pos (decide_eq_true h4), OA_t hok]
      unfold impl_Clock_offsetAt.f impl_floor.f OAv
      rw [w64 (x := t - a) (by omega) (by omega), w64 (x := r * (t - a)) (by omega) (by omega), if_neg (by omega), floor_eq (by omega) (by omega) (by omega)]
      simp only [Option.bind_some]
      rw [w64 (by omega) (by omega)]
    · have hok : ¬ OAok o r a t = true := by unfold OAok; rw [h, decide_eq_false h4]; decide
      rw [if_neg (by rw [decide_eq_false h4]; decide), OA_f hok]
  · have hok : ¬ OAok o r a t = true := by unfold OAok; intro e; rw [Bool.and_eq_true] at e; exact h e.1
    rw [if_neg h, OA_f hok]

theorem mn_comm (a b : Int) : mn a b = mn b a := by unfold mn; repeat' split <;> omega

theorem sOffsetAt_eq (o r a t : Int) : spec_OffsetAt.f o r a t = some (OA o r a t) := by
  unfold spec_OffsetAt.f
  rw [sValidClock_eq]; simp only [Option.bind_some]
  by_cases h : VC o r a = true
  · rw [if_pos h]
    obtain ⟨h1, h2, h3⟩ := (VC_iff _ _ _).1 h
    simp only [inRange_eq, Option.bind_some]
    rw [w64 (x := a + 100000) (by omega) (by omega), mn_comm]
    by_cases h4 : a ≤ t ∧ t ≤ mn (a + 100000) 3786479999
    · have hok : OAok o r a t = true := by unfold OAok; rw [h, decide_eq_true h4]; rfl
      obtain ⟨_, h5⟩ := (OAok_iff _ _ _ _).1 hok
      have hb := mulb (d := t - a) h2.1 h2.2 (by omega) (by omega)
      rw [if_pos (decide_eq_true h4), OA_t hok]
      unfold spec_drift.f spec_floorDiv.f OAv
      rw [w64 (x := t - a) (by omega) (by omega), w64 (x := r * (t - a)) (by omega) (by omega), if_neg (by omega), floor_eq (by omega) (by omega) (by omega)]
      simp only [Option.bind_some]
      rw [w64 (by omega) (by omega)]
    · have hok : ¬ OAok o r a t = true := by unfold OAok; rw [h, decide_eq_false h4]; decide
      rw [if_neg (by rw [decide_eq_false h4]; decide), OA_f hok]
  · have hok : ¬ OAok o r a t = true := by unfold OAok; intro e; rw [Bool.and_eq_true] at e; exact h e.1
    rw [if_neg h, OA_f hok]

def lim (n m : Int) : Int := mn (mx n (-m)) m
def SCok (o r a t f : Int) : Bool := OAok o r a t && decide (-1000000 ≤ f ∧ f ≤ 1000000)
def SCv (o r a t f : Int) : Int × Int × Int × Bool :=
  if mx f (-f) > 128000 then (lim (OAv o r a t - f) 1000000, r, t, true)
  else (lim (OAv o r a t - f / 4) 1000000, lim (r - f * 1000 / 4096) 500000, t, true)
def SC (o r a t f : Int) : Int × Int × Int × Bool := if SCok o r a t f = true then SCv o r a t f else (0, 0, 0, false)

theorem SC_t {o r a t f : Int} (h : SCok o r a t f = true) : SC o r a t f = SCv o r a t f := by unfold SC; rw [if_pos h]
theorem SC_f {o r a t f : Int} (h : ¬ SCok o r a t f = true) : SC o r a t f = (0, 0, 0, false) := by unfold SC; rw [if_neg h]
theorem SCok_iff (o r a t f : Int) : SCok o r a t f = true ↔ OAok o r a t = true ∧ (-1000000 ≤ f ∧ f ≤ 1000000) := by
  unfold SCok; rw [Bool.and_eq_true, decide_eq_true_eq]

theorem lim_rng (n m : Int) (h : 0 ≤ m) : -m ≤ lim n m ∧ lim n m ≤ m := by
  unfold lim mn mx; constructor <;> repeat' split <;> omega

theorem SCv_true (o r a t f : Int) : (SCv o r a t f).2.2.2 = true := by unfold SCv; split <;> rfl
theorem SCv_at (o r a t f : Int) : (SCv o r a t f).2.2.1 = t := by unfold SCv; split <;> rfl

theorem iStep_j0 (o r a t f : Int) (k : Nat) (h : SCok o r a t f = true) : impl_StepClock.j0 (k + 1) t f (OAv o r a t) false o r a = some (SCv o r a t f) := by
  obtain ⟨h1, h2⟩ := (SCok_iff _ _ _ _ _).1 h
  obtain ⟨⟨g1, g2, g3⟩, _⟩ := (OAok_iff _ _ _ _).1 h1
  have hv := OAv_rng h1
  generalize hV : OAv o r a t = V at hv
  unfold SCv
  rw [hV]
  simp only [impl_StepClock.j0]
  rw [if_neg (by decide)]
  unfold impl_apart.f impl_limited.f impl_floor.f
  simp only [Option.bind_some, Int.sub_zero, Int.zero_sub]
  rw [w64 (x := f) (by omega) (by omega), w64 (x := -f) (by omega) (by omega)]
  by_cases hm : mx f (-f) > 128000
  · rw [if_pos hm, if_pos hm, w64 (x := V - f) (by omega) (by omega), w64 (by omega) (by omega)]
    rfl
  · rw [if_neg hm, if_neg hm]
    rw [if_neg (show ¬ (4 : Int) = 0 by omega), if_neg (show ¬ (4096 : Int) = 0 by omega), floor_eq (a := f) (b := 4) (by omega) (by omega) (by omega), w64 (x := f * 1000) (by omega) (by omega), floor_eq (a := f * 1000) (b := 4096) (by omega) (by omega) (by omega)]
    simp only [Option.bind_some]
    rw [w64 (x := V - f / 4) (by omega) (by omega), w64 (x := r - f * 1000 / 4096) (by omega) (by omega), w64 (x := -1000000) (by omega) (by omega), w64 (x := -500000) (by omega) (by omega)]
    rfl

theorem lim_other (n m : Int) (h : 0 ≤ m) : mx (-m) (mn m n) = lim n m := by
  unfold lim mn mx; repeat' split <;> omega

theorem sStep_j0 (o r a t f : Int) (k : Nat) (h : SCok o r a t f = true) : spec_StepClock.j0 (k + 1) t f (OAv o r a t) false o r a = some (SCv o r a t f) := by
  obtain ⟨h1, h2⟩ := (SCok_iff _ _ _ _ _).1 h
  obtain ⟨⟨g1, g2, g3⟩, _⟩ := (OAok_iff _ _ _ _).1 h1
  have hv := OAv_rng h1
  generalize hV : OAv o r a t = V at hv
  unfold SCv
  rw [hV]
  simp only [spec_StepClock.j0]
  rw [if_neg (by decide)]
  unfold spec_size.f spec_limitTo.f spec_floorDiv.f
  simp only [Option.bind_some]
  rw [w64 (x := -f) (by omega) (by omega)]
  by_cases hm : mx f (-f) > 128000
  · rw [if_pos hm, if_pos hm, w64 (x := V - f) (by omega) (by omega), w64 (x := -1000000) (by omega) (by omega), lim_other _ _ (by omega)]
  · rw [if_neg hm, if_neg hm]
    rw [if_neg (show ¬ (4 : Int) = 0 by omega), if_neg (show ¬ (4096 : Int) = 0 by omega), floor_eq (a := f) (b := 4) (by omega) (by omega) (by omega), w64 (x := f * 1000) (by omega) (by omega), floor_eq (a := f * 1000) (b := 4096) (by omega) (by omega) (by omega)]
    simp only [Option.bind_some]
    rw [w64 (x := V - f / 4) (by omega) (by omega), w64 (x := r - f * 1000 / 4096) (by omega) (by omega), w64 (x := -1000000) (by omega) (by omega), w64 (x := -500000) (by omega) (by omega), lim_other _ _ (by omega), lim_other _ _ (by omega)]

theorem iStepClock_eq (o r a t f : Int) (k : Nat) : impl_StepClock.f (k + 1) o r a t f = some (SC o r a t f) := by
  unfold impl_StepClock.f impl_isOffset.f
  simp only [iOffsetAt_eq, within_eq, Option.bind_some]
  by_cases h1 : OAok o r a t = true
  · rw [OA_t h1]
    simp only
    rw [if_pos (by trivial)]
    by_cases h2 : -1000000 ≤ f ∧ f ≤ 1000000
    · have hok : SCok o r a t f = true := (SCok_iff _ _ _ _ _).2 ⟨h1, h2⟩
      rw [decide_eq_true h2, SC_t hok]
      exact iStep_j0 o r a t f k hok
    · have hok : ¬ SCok o r a t f = true := fun e => h2 ((SCok_iff _ _ _ _ _).1 e).2
      rw [decide_eq_false h2, SC_f hok]
      simp only [impl_StepClock.j0]
      rfl
  · have hok : ¬ SCok o r a t f = true := fun e => h1 ((SCok_iff _ _ _ _ _).1 e).1
    rw [OA_f h1, SC_f hok]
    simp only
    rw [if_neg (by decide)]
    simp only [impl_StepClock.j0]
    rfl

theorem sStepClock_eq (o r a t f : Int) (k : Nat) : spec_StepClock.f (k + 1) o r a t f = some (SC o r a t f) := by
  unfold spec_StepClock.f
  simp only [sOffsetAt_eq, inRange_eq, Option.bind_some]
  by_cases h1 : OAok o r a t = true
  · rw [OA_t h1]
    simp only
    rw [if_pos (by trivial)]
    by_cases h2 : -1000000 ≤ f ∧ f ≤ 1000000
    · have hok : SCok o r a t f = true := (SCok_iff _ _ _ _ _).2 ⟨h1, h2⟩
      rw [decide_eq_true h2, SC_t hok]
      exact sStep_j0 o r a t f k hok
    · have hok : ¬ SCok o r a t f = true := fun e => h2 ((SCok_iff _ _ _ _ _).1 e).2
      rw [decide_eq_false h2, SC_f hok]
      simp only [spec_StepClock.j0]
      rfl
  · have hok : ¬ SCok o r a t f = true := fun e => h1 ((SCok_iff _ _ _ _ _).1 e).1
    rw [OA_f h1, SC_f hok]
    simp only
    rw [if_neg (by decide)]
    simp only [spec_StepClock.j0]
    rfl

theorem FnStepClockRate : laws_FnStepClockRate.Pure := by
  intro l _ _ hw
  refine ⟨0 + 1 + 1, ?_⟩
  obtain ⟨o, r, a, t, f, hd⟩ := drawStepClock_ok (bytes_rng hw) (0 + 1)
  unfold laws_FnStepClockRate.f
  by_cases hL : (l.length : Int) > 1048576
  · rw [if_pos hL]
  · rw [if_neg hL, hd]
    simp only [Option.bind_some, iStepClock_eq, sStepClock_eq]
    rw [if_neg (by simp), if_neg (by simp)]
    simp only [laws_FnStepClockRate.j0]
    by_cases hok : SCok o r a t f = true
    · obtain ⟨h1, h2⟩ := (SCok_iff _ _ _ _ _).1 hok
      obtain ⟨⟨g1, g2, g3⟩, _⟩ := (OAok_iff _ _ _ _).1 h1
      rw [SC_t hok, SCv_true, if_pos (by trivial)]
      unfold laws_size.f
      simp only [Option.bind_some]
      rw [w64 (x := -f) (by omega) (by omega)]
      by_cases hm : mx f (-f) > 128000
      · rw [decide_eq_true hm, if_pos (by trivial)]; simp
      · have hr : (SCv o r a t f).2.1 = lim (r - f * 1000 / 4096) 500000 := by unfold SCv; rw [if_neg hm]
        rw [decide_eq_false hm, if_neg (by decide), hr]
        have k1 : 0 < f → lim (r - f * 1000 / 4096) 500000 ≤ r := by intro hf; unfold lim mn mx; repeat' split <;> omega
        have k2 : f < 0 → r ≤ lim (r - f * 1000 / 4096) 500000 := by intro hf; unfold lim mn mx; repeat' split <;> omega
        have k3 : f = 0 → lim (r - f * 1000 / 4096) 500000 = r := by intro hf; subst hf; unfold lim mn mx; repeat' split <;> omega
        by_cases hf : f < 0
        · rw [if_pos hf, if_neg (by omega), decide_eq_true (show lim (r - f * 1000 / 4096) 500000 ≥ r from k2 hf)]
        · rw [if_neg hf]
          by_cases hf0 : f = 0
          · rw [if_pos (by rw [k3 hf0]; omega), if_neg (by omega), decide_eq_true (show lim (r - f * 1000 / 4096) 500000 ≥ r by rw [k3 hf0]; omega)]
          · rw [if_pos (k1 (by omega)), if_pos (by omega)]
    · rw [SC_f hok]
      simp

end Go.Proofs.Ytedmfipncmkfcaa.Pure
