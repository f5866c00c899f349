/- OffsetAt CrossesZero is 0 or has the sign of the rate, and a second before it has not; the program's and the reference's CrossesZero tell the same. For every input; no condition. -/
import Derived.Test.YtlledohifanieaaPAllx5
import Derived.Test.YtlledohifanieaaBase
namespace Go.Proofs.Ytlledohifanieaa.Pure
open Go.RowKit Go.Proofs.Ytlledohifanieaa.PAll Go.Proofs.YtlledohifanieaaW.PrintWords Go.Proofs.YtlledohifanieaaW.PrintLast Go.Proofs.YtlledohifanieaaW.PrintMore Go.Proofs.Ytlledohifanieaa.Base
set_option linter.unusedVariables false
set_option linter.unusedSimpArgs false

/-- What a reader holds: at most 2000 bytes. -/
def Bts (s : List Int) : Prop := (∀ x ∈ s, 0 ≤ x ∧ x ≤ 255) ∧ s.length ≤ 2000

theorem pick_ok {s : List Int} (hs : Bts s) (p n : Int) (k : Nat) (hp : 0 ≤ p) (hp2 : p ≤ 1000000) :
    ∃ v, spec_reader_pick.f (k + 1) s p n = some (v, p + 1) ∧ 0 ≤ v ∧ (1 ≤ n → v < n) := by
  obtain ⟨hs1, hs2⟩ := hs
  unfold spec_reader_pick.f
  have e1 : wrap64 (p + 1) = p + 1 := w64 (by omega) (by omega)
  rw [e1]
  by_cases hn : n < 1
  · rw [if_pos hn]
    exact ⟨0, by simp only [spec_reader_pick.j0, if_true], Int.le_refl _, fun h => by omega⟩
  · rw [if_neg hn]
    by_cases h0 : s.length = 0
    · have hb : ((s.length : Int) == 0) = true := by rw [h0]; rfl
      rw [hb]
      exact ⟨0, by simp only [spec_reader_pick.j0, if_true], Int.le_refl _, fun h => by omega⟩
    · have hb : ((s.length : Int) == 0) = false := by simp; intro h; exact h0 (by rw [h]; rfl)
      rw [hb]
      have e2 : wrap64 (p + 1 - 1) = p := by rw [w64 (by omega) (by omega)]; omega
      have hL : (0 : Int) < s.length := by omega
      simp only [spec_reader_pick.j0]
      rw [if_neg (by simp), e2]
      by_cases h1 : p < (s.length : Int)
      · rw [if_pos h1, if_pos hp, if_neg (by omega)]
        have hr := rd_rng hs1 (by omega) (by omega) p
        rw [w64 (x := rd s p) (by omega) (by omega), tmod_nn hr.1]
        exact ⟨_, rfl, Int.emod_nonneg _ (by omega), fun _ => Int.emod_lt_of_pos _ (by omega)⟩
      · rw [if_neg h1, if_neg (by omega)]
        have e3 : wrap64 (wrap64 (p * 7) + 3) = p * 7 + 3 := by rw [w64 (x := p * 7) (by omega) (by omega), w64 (by omega) (by omega)]
        rw [e3, tmod_nn hp, tmod_nn (a := p * 7 + 3) (by omega), tdiv_nn hp]
        have q0 := Int.emod_nonneg p (b := (s.length : Int)) (by omega)
        have q1 := Int.emod_lt_of_pos p hL
        have q2 := Int.emod_nonneg (p * 7 + 3) (b := (s.length : Int)) (by omega)
        have q3 := Int.emod_lt_of_pos (p * 7 + 3) hL
        have q4 := ediv_rng hp hL
        rw [if_pos q0, if_pos q1, if_pos q2, if_pos q3, if_neg (by omega)]
        have r1 := rd_rng hs1 (by omega) (by omega) (p % (s.length : Int))
        have r2 := rd_rng hs1 (by omega) (by omega) ((p * 7 + 3) % (s.length : Int))
        generalize rd s (p % (s.length : Int)) = u1 at r1 ⊢
        generalize rd s ((p * 7 + 3) % (s.length : Int)) = u2 at r2 ⊢
        generalize p / (s.length : Int) = u3 at q4 ⊢
        have ey : wrap64 (wrap64 (wrap64 (wrap64 (wrap64 u1 * 131) + wrap64 (wrap64 u2 * 1117)) + wrap64 (p * 29)) + wrap64 (wrap64 u3 * 53)) = u1 * 131 + u2 * 1117 + p * 29 + u3 * 53 := by
          rw [w64 (x := u1) (by omega) (by omega), w64 (x := u2) (by omega) (by omega), w64 (x := u3) (by omega) (by omega), w64 (x := u1 * 131) (by omega) (by omega), w64 (x := u2 * 1117) (by omega) (by omega), w64 (x := p * 29) (by omega) (by omega), w64 (x := u3 * 53) (by omega) (by omega), w64 (x := u1 * 131 + u2 * 1117) (by omega) (by omega), w64 (x := u1 * 131 + u2 * 1117 + p * 29) (by omega) (by omega), w64 (by omega) (by omega)]
        rw [ey]
        have hy0 : 0 ≤ u1 * 131 + u2 * 1117 + p * 29 + u3 * 53 := by omega
        have hy1 : u1 * 131 + u2 * 1117 + p * 29 + u3 * 53 < 4611686018427387904 := by omega
        generalize u1 * 131 + u2 * 1117 + p * 29 + u3 * 53 = y at hy0 hy1 ⊢
        rw [tdiv_nn hy0]
        have hz := ediv_rng hy0 (b := 64) (by omega)
        rw [w64 (x := y / 64) (by omega) (by omega)]
        have hx := xor_nn hy0 hy1 hz.1 (by omega)
        rw [tmod_nn hx]
        exact ⟨_, rfl, Int.emod_nonneg _ (by omega), fun _ => Int.emod_lt_of_pos _ (by omega)⟩

theorem one_ok {s : List Int} (hs : Bts s) (p : Int) (l : List Int) (k : Nat) (hl : 0 < l.length) (hp : 0 ≤ p) (hp2 : p ≤ 1000000) :
    ∃ v, spec_reader_one.f (k + 1) s p l = some (v, p + 1) ∧ v ∈ l := by
  obtain ⟨v, h, h0, h1⟩ := pick_ok hs p (l.length : Int) k hp hp2
  have h2 := h1 (by omega)
  refine ⟨rd l v, ?_, ?_⟩
  · unfold spec_reader_one.f
    rw [h]
    simp only [Option.bind_some]
    rw [if_pos h0, if_pos h2]
  · unfold rd
    rw [List.getD_eq_getElem?_getD, List.getElem?_eq_getElem (by omega)]
    exact List.getElem_mem _

theorem new_ok {l : List Int} (h : ∀ x ∈ l, 0 ≤ x ∧ x ≤ 255) : ∃ s, spec_newReader.f l = some (s, 0) ∧ Bts s := by
  unfold spec_newReader.f
  by_cases h1 : (l.length : Int) > 2000
  · rw [if_pos h1, if_pos (by omega)]
    exact ⟨_, rfl, fun x hx => h x (List.mem_of_mem_take hx), by rw [List.length_take]; omega⟩
  · rw [if_neg h1]
    exact ⟨_, rfl, h, by omega⟩

theorem within_eq (a b c : Int) : impl_within.f a b c = some (decide (b ≤ a ∧ a ≤ c)) := by
  unfold impl_within.f
  by_cases h : b ≤ a
  · rw [if_pos h]; simp [h]
  · rw [if_neg h]; simp [h]

theorem inRange_eq (a b c : Int) : spec_inRange.f a b c = some (decide (b ≤ a ∧ a ≤ c)) := by
  unfold spec_inRange.f
  by_cases h : b ≤ a
  · rw [if_pos h]; simp [h]
  · rw [if_neg h]; simp [h]

/-- A valid clock. -/
def VC (o r a : Int) : Bool := decide (-1000000 ≤ o ∧ o ≤ 1000000) && (decide (-500000 ≤ r ∧ r ≤ 500000) && decide (0 ≤ a ∧ a ≤ 3786479999))

theorem iValidClock_eq (o r a : Int) : impl_ValidClock.f o r a = some (VC o r a) := by
  unfold impl_ValidClock.f impl_isOffset.f impl_isTime.f VC
  simp only [within_eq, Option.bind_some]
  by_cases h1 : -1000000 ≤ o ∧ o ≤ 1000000 <;> by_cases h2 : -500000 ≤ r ∧ r ≤ 500000 <;> simp [h1, h2]

theorem sValidClock_eq (o r a : Int) : spec_validClock.f o r a = some (VC o r a) := by
  unfold spec_validClock.f VC
  simp only [inRange_eq, Option.bind_some]
  by_cases h1 : -1000000 ≤ o ∧ o ≤ 1000000 <;> by_cases h2 : -500000 ≤ r ∧ r ≤ 500000 <;> simp [h1, h2]

theorem VC_iff (o r a : Int) : VC o r a = true ↔ (-1000000 ≤ o ∧ o ≤ 1000000) ∧ (-500000 ≤ r ∧ r ≤ 500000) ∧ (0 ≤ a ∧ a ≤ 3786479999) := by
  unfold VC; simp

theorem someOffset_ok {s : List Int} (hs : Bts s) (p : Int) (k : Nat) (hp : 0 ≤ p) (hp2 : p ≤ 900000) :
    ∃ v p', spec_someOffset.f (k + 1) s p = some (v, p') ∧ p ≤ p' ∧ p' ≤ p + 2 := by
  obtain ⟨v, h, _⟩ := pick_ok hs p 250 k hp (by omega)
  unfold spec_someOffset.f
  rw [h]; simp only [Option.bind_some]
  obtain ⟨v2, h2, _⟩ := one_ok hs (p + 1) [0, 1, (-1), 100, (-250), 5000, 128000, 128001, (-128000), 1000000, (-1000000), wrap64 (40 * (wrap64 (v - 125)))] k (by simp) (by omega) (by omega)
  rw [h2]; simp only [Option.bind_some]
  exact ⟨_, _, rfl, by omega, by omega⟩

theorem anyOffset_ok {s : List Int} (hs : Bts s) (p : Int) (k : Nat) (hp : 0 ≤ p) (hp2 : p ≤ 800000) :
    ∃ v p', spec_anyOffset.f (k + 1) s p = some (v, p') ∧ p ≤ p' ∧ p' ≤ p + 3 := by
  obtain ⟨v, h, _⟩ := pick_ok hs p 14 k hp (by omega)
  unfold spec_anyOffset.f
  rw [h]; simp only [Option.bind_some]
  by_cases h0 : v = 0
  · rw [if_pos h0]
    obtain ⟨v2, h2, _⟩ := one_ok hs (p + 1) [1000001, (-1000001)] k (by simp) (by omega) (by omega)
    rw [h2]; simp only [Option.bind_some]
    exact ⟨_, _, rfl, by omega, by omega⟩
  · rw [if_neg h0]
    obtain ⟨v2, p2, h2, _, _⟩ := someOffset_ok hs (p + 1) k (by omega) (by omega)
    rw [h2]; simp only [Option.bind_some]
    exact ⟨_, _, rfl, by omega, by omega⟩

theorem anyClock_ok {s : List Int} (hs : Bts s) (p : Int) (k : Nat) (hp : 0 ≤ p) (hp2 : p ≤ 700000) :
    ∃ a b c p', spec_anyClock.f (k + 1) s p = some (a, b, c, p') ∧ p ≤ p' ∧ p' ≤ p + 10 := by
  obtain ⟨v, p1, h1, l1, u1⟩ := someOffset_ok hs p k hp (by omega)
  unfold spec_anyClock.f
  rw [h1]; simp only [Option.bind_some]
  obtain ⟨v2, h2, _⟩ := one_ok hs p1 [0, 10, (-10), 1000, (-333), 500000, (-500000), 7] k (by simp) (by omega) (by omega)
  rw [h2]; simp only [Option.bind_some]
  obtain ⟨v3, h3, _⟩ := pick_ok hs (p1 + 1) 100 k (by omega) (by omega)
  rw [h3]; simp only [Option.bind_some]
  obtain ⟨v4, h4, _⟩ := pick_ok hs (p1 + 1 + 1) 16 k (by omega) (by omega)
  rw [h4]; simp only [Option.bind_some]
  by_cases h0 : v4 = 0
  · rw [if_pos h0]
    obtain ⟨v5, p5, h5, l5, u5⟩ := anyOffset_ok hs (p1 + 1 + 1 + 1) k (by omega) (by omega)
    rw [h5]; simp only [Option.bind_some]
    obtain ⟨v6, h6, _⟩ := one_ok hs p5 [0, 500001] k (by simp) (by omega) (by omega)
    rw [h6]; simp only [Option.bind_some]
    obtain ⟨v7, h7, _⟩ := one_ok hs (p5 + 1) [(-1), 5, 3786479999] k (by simp) (by omega) (by omega)
    rw [h7]; simp only [Option.bind_some]
    exact ⟨_, _, _, _, rfl, by omega, by omega⟩
  · rw [if_neg h0]
    exact ⟨_, _, _, _, rfl, by omega, by omega⟩

/-- The arguments at which OffsetAt tells an offset; the offset. -/
def OAok (o r a t : Int) : Bool := VC o r a && decide (a ≤ t ∧ t ≤ mn (a + 100000) 3786479999)
def OAv (o r a t : Int) : Int := o + r * (t - a) / 1000
def OA (o r a t : Int) : Int × Bool := if OAok o r a t = true then (OAv o r a t, true) else (0, false)

theorem OA_t {o r a t : Int} (h : OAok o r a t = true) : OA o r a t = (OAv o r a t, true) := by unfold OA; rw [if_pos h]
theorem OA_f {o r a t : Int} (h : ¬ OAok o r a t = true) : OA o r a t = (0, false) := by unfold OA; rw [if_neg h]

theorem OAok_iff (o r a t : Int) : OAok o r a t = true ↔ ((-1000000 ≤ o ∧ o ≤ 1000000) ∧ (-500000 ≤ r ∧ r ≤ 500000) ∧ (0 ≤ a ∧ a ≤ 3786479999)) ∧ (a ≤ t ∧ t ≤ a + 100000 ∧ t ≤ 3786479999) := by
  unfold OAok
  rw [Bool.and_eq_true, VC_iff, decide_eq_true_eq]
  have h : t ≤ mn (a + 100000) 3786479999 ↔ t ≤ a + 100000 ∧ t ≤ 3786479999 := by
    unfold mn; split <;> constructor <;> intro h <;> first | omega | exact ⟨by omega, by omega⟩
  rw [h]

theorem mulb {r d : Int} (h1 : -500000 ≤ r) (h2 : r ≤ 500000) (h3 : 0 ≤ d) (h4 : d ≤ 100000) : -50000000000 ≤ r * d ∧ r * d ≤ 50000000000 := by
  have a := Int.mul_le_mul_of_nonneg_right h2 h3
  have b := Int.mul_le_mul_of_nonneg_right h1 h3
  omega

theorem OAv_rng {o r a t : Int} (h : OAok o r a t = true) : -60000000 ≤ OAv o r a t ∧ OAv o r a t ≤ 60000000 := by
  obtain ⟨⟨h1, h2, h3⟩, h4⟩ := (OAok_iff _ _ _ _).1 h
  have hb := mulb (d := t - a) h2.1 h2.2 (by omega) (by omega)
  unfold OAv
  omega

theorem mn_comm (a b : Int) : mn a b = mn b a := by unfold mn; repeat' split <;> omega

theorem iOffsetAt_eq (o r a t : Int) : impl_OffsetAt.f o r a t = some (OA o r a t) := by
  unfold impl_OffsetAt.f
  rw [iValidClock_eq]; simp only [Option.bind_some]
  by_cases h : VC o r a = true
  · rw [if_pos h]
    obtain ⟨h1, h2, h3⟩ := (VC_iff _ _ _).1 h
    unfold impl_Clock_lastTime.f
    simp only [Option.bind_some, within_eq]
    rw [w64 (x := a + 100000) (by omega) (by omega)]
    by_cases h4 : a ≤ t ∧ t ≤ mn (a + 100000) 3786479999
    · have hok : OAok o r a t = true := by unfold OAok; rw [h, decide_eq_true h4]; rfl
      obtain ⟨_, h5⟩ := (OAok_iff _ _ _ _).1 hok
      have hb := mulb (d := t - a) h2.1 h2.2 (by omega) (by omega)
      rw [if_pos (decide_eq_true h4), OA_t hok]
      unfold impl_Clock_offsetAt.f impl_floor.f OAv
      rw [w64 (x := t - a) (by omega) (by omega), w64 (x := r * (t - a)) (by omega) (by omega), if_neg (by omega), floor_eq (by omega) (by omega) (by omega)]
      simp only [Option.bind_some]
      rw [w64 (by omega) (by omega)]
    · have hok : ¬ OAok o r a t = true := by unfold OAok; rw [h, decide_eq_false h4]; decide
      rw [if_neg (by rw [decide_eq_false h4]; decide), OA_f hok]
  · have hok : ¬ OAok o r a t = true := by unfold OAok; intro e; rw [Bool.and_eq_true] at e; exact h e.1
    rw [if_neg h, OA_f hok]

/-- The offset has come to 0, or to the other side. -/
def crs (o r a t : Int) : Bool := if o > 0 then decide (OAv o r a t ≤ 0) else decide (OAv o r a t ≥ 0)

theorem iOff_eq {o r a t : Int} (h : OAok o r a t = true) : impl_Clock_offsetAt.f o r a t = some (OAv o r a t) := by
  have hv := OAv_rng h
  obtain ⟨⟨h1, h2, h3⟩, h4, h5, h6⟩ := (OAok_iff _ _ _ _).1 h
  have hm := mulb h2.1 h2.2 (show 0 ≤ t - a by omega) (show t - a ≤ 100000 by omega)
  unfold impl_Clock_offsetAt.f impl_floor.f
  rw [w64 (x := t - a) (by omega) (by omega), w64 (x := r * (t - a)) (by omega) (by omega), if_neg (by decide), floor_eq (by decide) (by omega) (by omega)]
  simp only [Option.bind_some]
  unfold OAv at hv
  rw [w64 (by omega) (by omega)]
  rfl

theorem sCrs_eq {o r a t : Int} (h : OAok o r a t = true) : spec_crossed.f o r a t = some (crs o r a t) := by
  have hv := OAv_rng h
  obtain ⟨⟨h1, h2, h3⟩, h4, h5, h6⟩ := (OAok_iff _ _ _ _).1 h
  have hm := mulb h2.1 h2.2 (show 0 ≤ t - a by omega) (show t - a ≤ 100000 by omega)
  unfold spec_crossed.f spec_drift.f spec_floorDiv.f crs
  rw [w64 (x := t - a) (by omega) (by omega), w64 (x := r * (t - a)) (by omega) (by omega), if_neg (by decide), floor_eq (by decide) (by omega) (by omega)]
  simp only [Option.bind_some]
  unfold OAv at hv ⊢
  rw [w64 (by omega) (by omega)]
  split <;> rfl

theorem iCrs_eq {o r a t : Int} (h : OAok o r a t = true) (hs : (o > 0 ∧ r < 0) ∨ (o < 0 ∧ r > 0)) : impl_CrossesZero_1.f o r a t = some (crs o r a t) := by
  unfold impl_CrossesZero_1.f crs
  rw [iOff_eq h]
  simp only [Option.bind_some]
  generalize OAv o r a t = V
  congr 1
  rcases hs with ⟨h1, h2⟩ | ⟨h1, h2⟩
  · rw [if_pos h1, decide_eq_false (show ¬ r > 0 by omega)]
    by_cases hv : V > 0
    · rw [decide_eq_true hv, decide_eq_false (show ¬ V = 0 by omega), decide_eq_false (show ¬ V ≤ 0 by omega)]; rfl
    · rw [decide_eq_false hv, decide_eq_true (show V ≤ 0 by omega)]; simp
  · rw [if_neg (by omega), decide_eq_true h2]
    by_cases hv : V > 0
    · rw [decide_eq_true hv, decide_eq_true (show V ≥ 0 by omega)]; simp
    · rw [decide_eq_false hv]
      by_cases h0 : V = 0
      · rw [decide_eq_true h0, decide_eq_true (show V ≥ 0 by omega)]; rfl
      · rw [decide_eq_false h0, decide_eq_false (show ¬ V ≥ 0 by omega)]; rfl

theorem crs_mono {o r a s t : Int} (hs : (o > 0 ∧ r < 0) ∨ (o < 0 ∧ r > 0)) (hst : s ≤ t) (h : crs o r a s = true) : crs o r a t = true := by
  unfold crs OAv at *
  rcases hs with ⟨h1, h2⟩ | ⟨h1, h2⟩
  · rw [if_pos h1] at h ⊢
    have h' := of_decide_eq_true h
    have hm : r * (t - a) ≤ r * (s - a) := Int.mul_le_mul_of_nonpos_left (by omega) (by omega)
    have hd := Int.ediv_le_ediv (c := 1000) (by omega) hm
    exact decide_eq_true (by omega)
  · rw [if_neg (by omega)] at h ⊢
    have h' := of_decide_eq_true h
    have hm : r * (s - a) ≤ r * (t - a) := Int.mul_le_mul_of_nonneg_left (by omega) (by omega)
    have hd := Int.ediv_le_ediv (c := 1000) (by omega) hm
    exact decide_eq_true (by omega)

theorem crs_a {o r a : Int} (hs : (o > 0 ∧ r < 0) ∨ (o < 0 ∧ r > 0)) : crs o r a a = false := by
  unfold crs OAv
  rw [Int.sub_self, Int.mul_zero, Int.zero_ediv, Int.add_zero]
  rcases hs with ⟨h1, h2⟩ | ⟨h1, h2⟩
  · rw [if_pos h1]; exact decide_eq_false (by omega)
  · rw [if_neg (by omega)]; exact decide_eq_false (by omega)

theorem iCz_l0 {o r a : Int} (hv : VC o r a = true) (hs : (o > 0 ∧ r < 0) ∨ (o < 0 ∧ r > 0)) : ∀ (d : Nat) (low high : Int), high - low = d → 1 ≤ d → a ≤ low → high ≤ a + 100000 → high ≤ 3786479999 → crs o r a high = true → crs o r a low = false →
    ∃ t, a < t ∧ t ≤ high ∧ crs o r a t = true ∧ crs o r a (t - 1) = false ∧ ∀ k, d < k → impl_CrossesZero.l0 k o r a low high = some t := by
  intro d
  induction d using Nat.strongRecOn with
  | _ d ih =>
    intro low high hd h1 ha hb hc hp hq
    obtain ⟨v1, v2, v3⟩ := (VC_iff _ _ _).1 hv
    by_cases hgt : high - low > 1
    · have em : wrap64 (Int.tdiv (wrap64 (low + high)) 2) = (low + high) / 2 := by
        rw [w64 (x := low + high) (by omega) (by omega), tdiv_nn (by omega), w64 (by omega) (by omega)]
      have hok : OAok o r a ((low + high) / 2) = true := (OAok_iff _ _ _ _).2 ⟨⟨v1, v2, v3⟩, by omega, by omega, by omega⟩
      have hf := iCrs_eq hok hs
      cases hm : crs o r a ((low + high) / 2) with
      | true =>
        obtain ⟨t, g1, g2, g3, g4, g5⟩ := ih ((low + high) / 2 - low).toNat (by omega) low ((low + high) / 2) (by omega) (by omega) ha (by omega) (by omega) hm hq
        refine ⟨t, g1, by omega, g3, g4, fun k hk => ?_⟩
        obtain ⟨k, rfl⟩ : ∃ m, k = m + 1 := ⟨k - 1, by omega⟩
        rw [impl_CrossesZero.l0, w64 (x := high - low) (by omega) (by omega), if_pos hgt, em, hf, hm]
        simp only [Option.bind_some]
        rw [if_pos (by trivial)]
        exact g5 k (by omega)
      | false =>
        obtain ⟨t, g1, g2, g3, g4, g5⟩ := ih (high - (low + high) / 2).toNat (by omega) ((low + high) / 2) high (by omega) (by omega) (by omega) hb hc hp hm
        refine ⟨t, g1, by omega, g3, g4, fun k hk => ?_⟩
        obtain ⟨k, rfl⟩ : ∃ m, k = m + 1 := ⟨k - 1, by omega⟩
        rw [impl_CrossesZero.l0, w64 (x := high - low) (by omega) (by omega), if_pos hgt, em, hf, hm]
        simp only [Option.bind_some]
        rw [if_neg (by decide)]
        exact g5 k (by omega)
    · refine ⟨high, by omega, Int.le_refl _, hp, by rw [show high - 1 = low by omega]; exact hq, fun k hk => ?_⟩
      obtain ⟨k, rfl⟩ : ∃ m, k = m + 1 := ⟨k - 1, by omega⟩
      rw [impl_CrossesZero.l0, w64 (x := high - low) (by omega) (by omega), if_neg hgt]

theorem sCz_l0 {o r a : Int} (hv : VC o r a = true) (hs : (o > 0 ∧ r < 0) ∨ (o < 0 ∧ r > 0)) : ∀ (d : Nat) (low high : Int), high - low = d → a ≤ low → high ≤ a + 100000 → high ≤ 3786479999 → crs o r a high = true → (low = a ∨ crs o r a (low - 1) = false) →
    ∃ t, a < t ∧ t ≤ high ∧ crs o r a t = true ∧ crs o r a (t - 1) = false ∧ ∀ k, d < k → spec_CrossesZero.l0 k low high o r a = some t := by
  intro d
  induction d using Nat.strongRecOn with
  | _ d ih =>
    intro low high hd ha hb hc hp hq
    obtain ⟨v1, v2, v3⟩ := (VC_iff _ _ _).1 hv
    by_cases hgt : low < high
    · have em : wrap64 (Int.tdiv (wrap64 (low + high)) 2) = (low + high) / 2 := by
        rw [w64 (x := low + high) (by omega) (by omega), tdiv_nn (by omega), w64 (by omega) (by omega)]
      have hok : OAok o r a ((low + high) / 2) = true := (OAok_iff _ _ _ _).2 ⟨⟨v1, v2, v3⟩, by omega, by omega, by omega⟩
      have hf := sCrs_eq hok
      cases hm : crs o r a ((low + high) / 2) with
      | true =>
        obtain ⟨t, g1, g2, g3, g4, g5⟩ := ih ((low + high) / 2 - low).toNat (by omega) low ((low + high) / 2) (by omega) ha (by omega) (by omega) hm hq
        refine ⟨t, g1, by omega, g3, g4, fun k hk => ?_⟩
        obtain ⟨k, rfl⟩ : ∃ m, k = m + 1 := ⟨k - 1, by omega⟩
        rw [spec_CrossesZero.l0, if_pos hgt, em, hf, hm]
        simp only [Option.bind_some]
        rw [if_pos (by trivial)]
        exact g5 k (by omega)
      | false =>
        obtain ⟨t, g1, g2, g3, g4, g5⟩ := ih (high - ((low + high) / 2 + 1)).toNat (by omega) ((low + high) / 2 + 1) high (by omega) (by omega) hb hc hp (Or.inr (by rw [Int.add_sub_cancel]; exact hm))
        refine ⟨t, g1, by omega, g3, g4, fun k hk => ?_⟩
        obtain ⟨k, rfl⟩ : ∃ m, k = m + 1 := ⟨k - 1, by omega⟩
        rw [spec_CrossesZero.l0, if_pos hgt, em, hf, hm]
        simp only [Option.bind_some]
        rw [if_neg (by decide), w64 (x := (low + high) / 2 + 1) (by omega) (by omega)]
        exact g5 k (by omega)
    · have e : low = high := by omega
      subst e
      have hna : low ≠ a := fun q => by rw [q, crs_a hs] at hp; cases hp
      refine ⟨low, by omega, Int.le_refl _, hp, ?_, fun k hk => ?_⟩
      · rcases hq with q | q
        · exact absurd q hna
        · exact q
      · obtain ⟨k, rfl⟩ : ∃ m, k = m + 1 := ⟨k - 1, by omega⟩
        rw [spec_CrossesZero.l0, if_neg hgt]

theorem cz_eq (o r a : Int) : ∃ t, (t = -1 ∨ (VC o r a = true ∧ ((o > 0 ∧ r < 0) ∨ (o < 0 ∧ r > 0)) ∧ a < t ∧ t ≤ a + 100000 ∧ t ≤ 3786479999 ∧ crs o r a t = true ∧ crs o r a (t - 1) = false)) ∧
    ∀ k, 100010 < k → impl_CrossesZero.f k o r a = some t ∧ spec_CrossesZero.f k o r a = some t := by
  by_cases hv : VC o r a = true
  · obtain ⟨v1, v2, v3⟩ := (VC_iff _ _ _).1 hv
    by_cases hs : (o > 0 ∧ r < 0) ∨ (o < 0 ∧ r > 0)
    · have el : wrap64 (a + 100000) = a + 100000 := w64 (by omega) (by omega)
      have hi2 : mn (a + 100000) 3786479999 = mn 3786479999 (a + 100000) := mn_comm _ _
      have hlo : a ≤ mn 3786479999 (a + 100000) ∧ mn 3786479999 (a + 100000) ≤ a + 100000 ∧ mn 3786479999 (a + 100000) ≤ 3786479999 := by unfold mn; split <;> omega
      generalize hL : mn 3786479999 (a + 100000) = L at hi2 hlo
      have hok : OAok o r a L = true := (OAok_iff _ _ _ _).2 ⟨⟨v1, v2, v3⟩, by omega, by omega, by omega⟩
      have ef : ∀ k, impl_CrossesZero.f k o r a = if crs o r a L = true then impl_CrossesZero.l0 k o r a a L else some (-1) := by
        intro k
        unfold impl_CrossesZero.f impl_Clock_lastTime.f
        rw [iValidClock_eq, hv]; simp only [Option.bind_some]
        rw [if_neg (by decide), if_pos hs, el, hi2, iCrs_eq hok hs]
        simp only [Option.bind_some]
      have sf : ∀ k, spec_CrossesZero.f (k + 1) o r a = if crs o r a L = true then spec_CrossesZero.l0 k a L o r a else some (-1) := by
        intro k
        have hj : spec_CrossesZero.j0 (k + 1) false o r a = if crs o r a L = true then spec_CrossesZero.l0 k a L o r a else some (-1) := by
          rw [spec_CrossesZero.j0, if_neg (by decide), el, hL, sCrs_eq hok]
          simp only [Option.bind_some]
        unfold spec_CrossesZero.f
        rw [sValidClock_eq, hv]; simp only [Option.bind_some]
        have h0 : (o == 0) = false := by simp; omega
        rw [if_pos (by trivial), h0, hj]
        rcases hs with ⟨q1, q2⟩ | ⟨q1, q2⟩
        · rw [if_pos q1, if_neg (by omega), if_neg (by omega)]
        · rw [if_neg (by omega), if_pos q1, if_neg (by omega)]
      cases hc : crs o r a L with
      | true =>
        have hna : L ≠ a := fun q => by rw [q, crs_a hs] at hc; cases hc
        obtain ⟨t, g1, g2, g3, g4, g5⟩ := iCz_l0 hv hs (L - a).toNat a L (by omega) (by omega) (Int.le_refl _) hlo.2.1 hlo.2.2 hc (crs_a hs)
        obtain ⟨u, e1, e2, e3, e4, e5⟩ := sCz_l0 hv hs (L - a).toNat a L (by omega) (Int.le_refl _) hlo.2.1 hlo.2.2 hc (Or.inl rfl)
        have htu : t = u := by
          rcases Int.lt_trichotomy t u with h | h | h
          · have := crs_mono hs (show t ≤ u - 1 by omega) g3; rw [e4] at this; cases this
          · exact h
          · have := crs_mono hs (show u ≤ t - 1 by omega) e3; rw [g4] at this; cases this
        subst htu
        refine ⟨t, Or.inr ⟨hv, hs, g1, by omega, by omega, g3, g4⟩, fun k hk => ?_⟩
        obtain ⟨k, rfl⟩ : ∃ m, k = m + 1 := ⟨k - 1, by omega⟩
        rw [ef, sf, hc, if_pos (by trivial), if_pos (by trivial)]
        exact ⟨g5 _ (by omega), e5 _ (by omega)⟩
      | false =>
        refine ⟨-1, Or.inl rfl, fun k hk => ?_⟩
        obtain ⟨k, rfl⟩ : ∃ m, k = m + 1 := ⟨k - 1, by omega⟩
        rw [ef, sf, hc, if_neg (by decide), if_neg (by decide)]
        exact ⟨rfl, rfl⟩
    · refine ⟨-1, Or.inl rfl, fun k hk => ?_⟩
      obtain ⟨k, rfl⟩ : ∃ m, k = m + 1 := ⟨k - 1, by omega⟩
      have hj : spec_CrossesZero.j0 (k + 1) true o r a = some (-1) := by rw [spec_CrossesZero.j0, if_pos (by trivial)]
      unfold impl_CrossesZero.f spec_CrossesZero.f
      rw [iValidClock_eq, sValidClock_eq, hv]; simp only [Option.bind_some]
      rw [if_neg (by decide), if_neg hs, if_pos (by trivial), hj]
      refine ⟨rfl, ?_⟩
      by_cases p1 : o > 0
      · rw [if_pos p1, if_pos (by omega)]
      · rw [if_neg p1]
        by_cases p2 : o < 0
        · rw [if_pos p2, if_pos (by omega)]
        · rw [if_neg p2, show (o == 0) = true by simp; omega, hj]
  · refine ⟨-1, Or.inl rfl, fun k hk => ?_⟩
    obtain ⟨k, rfl⟩ : ∃ m, k = m + 1 := ⟨k - 1, by omega⟩
    unfold impl_CrossesZero.f spec_CrossesZero.f
    rw [iValidClock_eq, sValidClock_eq, eq_false_of_ne_true hv]; simp only [Option.bind_some]
    rw [if_pos (by trivial), if_neg (by decide), spec_CrossesZero.j0, if_pos (by trivial)]
    exact ⟨rfl, rfl⟩

theorem draw_ok {l : List Int} (h : ∀ x ∈ l, 0 ≤ x ∧ x ≤ 255) (k : Nat) : ∃ o r a, spec_DrawCrossesZero.f (k + 1) l = some (o, r, a) := by
  obtain ⟨s, h1, hs⟩ := new_ok h
  unfold spec_DrawCrossesZero.f
  rw [h1]; simp only [Option.bind_some]
  obtain ⟨a, b, c, p, h2, _⟩ := anyClock_ok hs 0 k (by omega) (by omega)
  rw [h2]; simp only [Option.bind_some]
  exact ⟨_, _, _, rfl⟩

theorem FnCrossesZero : laws_FnCrossesZero.Pure := by
  intro l _ _ hw
  refine ⟨100011 + 1, ?_⟩
  obtain ⟨o, r, a, hd⟩ := draw_ok (bytes_rng hw) 100011
  obtain ⟨t, ht, h⟩ := cz_eq o r a
  obtain ⟨h1, h2⟩ := h (100011 + 1) (by omega)
  obtain ⟨h3, h4⟩ := h 100011 (by omega)
  unfold laws_FnCrossesZero.f
  by_cases hL : (l.length : Int) > 1048576
  · rw [if_pos hL]
  · rw [if_neg hL, hd]
    simp only [Option.bind_some]
    rw [h1, h2]
    simp only [Option.bind_some]
    rw [if_pos (by trivial), laws_FnCrossesZero.j0]
    rcases ht with e | ⟨hv, hs, g1, g2, g3, g4, g5⟩
    · rw [e, if_pos (by decide)]
      rw [e] at h4
      rw [h4]
      rfl
    · obtain ⟨v1, v2, v3⟩ := (VC_iff _ _ _).1 hv
      have hok : OAok o r a t = true := (OAok_iff _ _ _ _).2 ⟨⟨v1, v2, v3⟩, by omega, by omega, by omega⟩
      have hok1 : OAok o r a (t - 1) = true := (OAok_iff _ _ _ _).2 ⟨⟨v1, v2, v3⟩, by omega, by omega, by omega⟩
      rw [if_neg (by simp; omega), w64 (x := t - 1) (by omega) (by omega), iOffsetAt_eq, iOffsetAt_eq, OA_t hok, OA_t hok1]
      simp only [Option.bind_some]
      unfold crs at g4 g5
      generalize OAv o r a t = V at g4 ⊢
      generalize OAv o r a (t - 1) = W at g5 ⊢
      rcases hs with ⟨q1, q2⟩ | ⟨q1, q2⟩
      · rw [if_pos q1] at g4 g5 ⊢
        have k1 := of_decide_eq_true g4
        have k2 := of_decide_eq_false g5
        rw [if_pos (by trivial), if_pos (by trivial), if_pos k1, if_pos (by omega), decide_eq_true q2]
      · rw [if_neg (by omega)] at g4 g5 ⊢
        have k1 := of_decide_eq_true g4
        have k2 := of_decide_eq_false g5
        rw [if_pos (by trivial), if_pos (by trivial), if_pos k1, if_pos (by omega), decide_eq_true q2]

end Go.Proofs.Ytlledohifanieaa.Pure
