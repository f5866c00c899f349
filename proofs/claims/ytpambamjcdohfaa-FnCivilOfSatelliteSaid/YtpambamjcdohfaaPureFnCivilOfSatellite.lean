/- SatelliteOf CivilOf is the time, or the second before a leap second; the program's and the reference's CivilOf tell the same. For every input; no condition. -/
import Derived.Test.YtpambamjcdohfaaPAllx8
import Derived.Test.YtpambamjcdohfaaBase
namespace Go.Proofs.Ytpambamjcdohfaa.Pure
open Go.RowKit Go.Proofs.Ytpambamjcdohfaa.PAll Go.Proofs.YtpambamjcdohfaaW.PrintWords Go.Proofs.YtpambamjcdohfaaW.PrintLast Go.Proofs.YtpambamjcdohfaaW.PrintMore Go.Proofs.Ytpambamjcdohfaa.Base
set_option linter.unusedVariables false
set_option linter.unusedSimpArgs false

/-- What a reader holds: at most 2000 bytes. -/
def Bts (s : List Int) : Prop := (∀ x ∈ s, 0 ≤ x ∧ x ≤ 255) ∧ s.length ≤ 2000

theorem pick_ok {s : List Int} (hs : Bts s) (p n : Int) (k : Nat) (hp : 0 ≤ p) (hp2 : p ≤ 1000000) :
    ∃ v, spec_reader_pick.f (k + 1) s p n = some (v, p + 1) ∧ 0 ≤ v ∧ (1 ≤ n → v < n) := by
  obtain ⟨hs1, hs2⟩ := hs
  unfold spec_reader_pick.f
  have e1 : wrap64 (p + 1) = p + 1 := w64 (by omega) (by omega)
  rw [e1]
  by_cases hn : n < 1
  · rw [if_pos hn]
    exact ⟨0, by simp only [spec_reader_pick.j0, if_true], Int.le_refl _, fun h => by omega⟩
  · rw [if_neg hn]
    by_cases h0 : s.length = 0
    · have hb : ((s.length : Int) == 0) = true := by rw [h0]; rfl
      rw [hb]
      exact ⟨0, by simp only [spec_reader_pick.j0, if_true], Int.le_refl _, fun h => by omega⟩
    · have hb : ((s.length : Int) == 0) = false := by simp; intro h; exact h0 (by rw [h]; rfl)
      rw [hb]
      have e2 : wrap64 (p + 1 - 1) = p := by rw [w64 (by omega) (by omega)]; omega
      have hL : (0 : Int) < s.length := by omega
      simp only [spec_reader_pick.j0]
      rw [if_neg (by simp), e2]
      by_cases h1 : p < (s.length : Int)
      · rw [if_pos h1, if_pos hp, if_neg (by omega)]
        have hr := rd_rng hs1 (by omega) (by omega) p
        rw [w64 (x := rd s p) (by omega) (by omega), tmod_nn hr.1]
        exact ⟨_, rfl, Int.emod_nonneg _ (by omega), fun _ => Int.emod_lt_of_pos _ (by omega)⟩
      · rw [if_neg h1, if_neg (by omega)]
        have e3 : wrap64 (wrap64 (p * 7) + 3) = p * 7 + 3 := by rw [w64 (x := p * 7) (by omega) (by omega), w64 (by omega) (by omega)]
        rw [e3, tmod_nn hp, tmod_nn (a := p * 7 + 3) (by omega), tdiv_nn hp]
        have q0 := Int.emod_nonneg p (b := (s.length : Int)) (by omega)
        have q1 := Int.emod_lt_of_pos p hL
        have q2 := Int.emod_nonneg (p * 7 + 3) (b := (s.length : Int)) (by omega)
        have q3 := Int.emod_lt_of_pos (p * 7 + 3) hL
        have q4 := ediv_rng hp hL
        rw [if_pos q0, if_pos q1, if_pos q2, if_pos q3, if_neg (by omega)]
        have r1 := rd_rng hs1 (by omega) (by omega) (p % (s.length : Int))
        have r2 := rd_rng hs1 (by omega) (by omega) ((p * 7 + 3) % (s.length : Int))
        generalize rd s (p % (s.length : Int)) = u1 at r1 ⊢
        generalize rd s ((p * 7 + 3) % (s.length : Int)) = u2 at r2 ⊢
        generalize p / (s.length : Int) = u3 at q4 ⊢
        have ey : wrap64 (wrap64 (wrap64 (wrap64 (wrap64 u1 * 131) + wrap64 (wrap64 u2 * 1117)) + wrap64 (p * 29)) + wrap64 (wrap64 u3 * 53)) = u1 * 131 + u2 * 1117 + p * 29 + u3 * 53 := by
          rw [w64 (x := u1) (by omega) (by omega), w64 (x := u2) (by omega) (by omega), w64 (x := u3) (by omega) (by omega), w64 (x := u1 * 131) (by omega) (by omega), w64 (x := u2 * 1117) (by omega) (by omega), w64 (x := p * 29) (by omega) (by omega), w64 (x := u3 * 53) (by omega) (by omega), w64 (x := u1 * 131 + u2 * 1117) (by omega) (by omega), w64 (x := u1 * 131 + u2 * 1117 + p * 29) (by omega) (by omega), w64 (by omega) (by omega)]
        rw [ey]
        have hy0 : 0 ≤ u1 * 131 + u2 * 1117 + p * 29 + u3 * 53 := by omega
        have hy1 : u1 * 131 + u2 * 1117 + p * 29 + u3 * 53 < 4611686018427387904 := by omega
        generalize u1 * 131 + u2 * 1117 + p * 29 + u3 * 53 = y at hy0 hy1 ⊢
        rw [tdiv_nn hy0]
        have hz := ediv_rng hy0 (b := 64) (by omega)
        rw [w64 (x := y / 64) (by omega) (by omega)]
        have hx := xor_nn hy0 hy1 hz.1 (by omega)
        rw [tmod_nn hx]
        exact ⟨_, rfl, Int.emod_nonneg _ (by omega), fun _ => Int.emod_lt_of_pos _ (by omega)⟩

theorem one_ok {s : List Int} (hs : Bts s) (p : Int) (l : List Int) (k : Nat) (hl : 0 < l.length) (hp : 0 ≤ p) (hp2 : p ≤ 1000000) :
    ∃ v, spec_reader_one.f (k + 1) s p l = some (v, p + 1) ∧ v ∈ l := by
  obtain ⟨v, h, h0, h1⟩ := pick_ok hs p (l.length : Int) k hp hp2
  have h2 := h1 (by omega)
  refine ⟨rd l v, ?_, ?_⟩
  · unfold spec_reader_one.f
    rw [h]
    simp only [Option.bind_some]
    rw [if_pos h0, if_pos h2]
  · unfold rd
    rw [List.getD_eq_getElem?_getD, List.getElem?_eq_getElem (by omega)]
    exact List.getElem_mem _

theorem new_ok {l : List Int} (h : ∀ x ∈ l, 0 ≤ x ∧ x ≤ 255) : ∃ s, spec_newReader.f l = some (s, 0) ∧ Bts s := by
  unfold spec_newReader.f
  by_cases h1 : (l.length : Int) > 2000
  · rw [if_pos h1, if_pos (by omega)]
    exact ⟨_, rfl, fun x hx => h x (List.mem_of_mem_take hx), by rw [List.length_take]; omega⟩
  · rw [if_neg h1]
    exact ⟨_, rfl, h, by omega⟩

theorem pick_okk {s : List Int} (hs : Bts s) (p n : Int) (k : Nat) (hk : 1 ≤ k) (hp : 0 ≤ p) (hp2 : p ≤ 1000000) :
    ∃ v, spec_reader_pick.f k s p n = some (v, p + 1) ∧ 0 ≤ v ∧ (1 ≤ n → v < n) := by
  obtain ⟨m, rfl⟩ : ∃ m, k = m + 1 := ⟨k - 1, by omega⟩
  exact pick_ok hs p n m hp hp2

theorem one_okk {s : List Int} (hs : Bts s) (p : Int) (l : List Int) (k : Nat) (hk : 1 ≤ k) (hl : 0 < l.length) (hp : 0 ≤ p) (hp2 : p ≤ 1000000) :
    ∃ v, spec_reader_one.f k s p l = some (v, p + 1) ∧ v ∈ l := by
  obtain ⟨m, rfl⟩ : ∃ m, k = m + 1 := ⟨k - 1, by omega⟩
  exact one_ok hs p l m hl hp hp2

theorem wsucc {i : Nat} (h : i < 1152921504606846976) : wrap64 ((i : Int) + 1) = ((i + 1 : Nat) : Int) := by
  rw [w64 (by omega) (by omega)]; omega

theorem within_eq (a b c : Int) : impl_within.f a b c = some (decide (b ≤ a ∧ a ≤ c)) := by
  unfold impl_within.f
  by_cases h : b ≤ a
  · rw [if_pos h]; simp [h]
  · rw [if_neg h]; simp [h]

/-- A valid table of leap seconds. -/
def lv (l : List Int) : Bool := leapsOk (-604800) l && decide (l.length ≤ 8)
theorem sLv_eq (l : List Int) : spec_validLeaps.f l = some (lv l) := rfl

theorem iLv_l0 (l : List Int) (hl : l.length ≤ 1000000) : ∀ (k i : Nat), i ≤ l.length → l.length - i < k → (0 < i → 1 ≤ rd l ((i : Int) - 1) ∧ rd l ((i : Int) - 1) ≤ 1893239999) →
    impl_ValidLeaps.l0 k l l (l.length : Int) (i : Int) = some (leapsOk (leapBefore l i) (l.drop i) && decide (l.length ≤ 8)) := by
  intro k
  induction k with
  | zero => intro i _ hk; omega
  | succ k ih =>
    intro i hi hk hB
    simp only [impl_ValidLeaps.l0]
    by_cases hlt : i < l.length
    · rw [if_pos (by omega), if_pos (by omega), if_pos (by omega), within_eq, leaps_step hlt]
      simp only [Option.bind_some]
      by_cases g0 : 1 ≤ rd l i ∧ rd l i ≤ 1893239999
      · have hB' : 0 < i + 1 → 1 ≤ rd l (((i + 1 : Nat) : Int) - 1) ∧ rd l (((i + 1 : Nat) : Int) - 1) ≤ 1893239999 := fun _ => by
          rw [show (((i + 1 : Nat) : Int) - 1) = (i : Int) by omega]; exact g0
        rw [if_pos (decide_eq_true g0), decide_eq_true g0, wsucc (by omega)]
        by_cases hz : i = 0
        · have eb : leapBefore l i = -604800 := by unfold leapBefore; rw [if_pos hz]
          rw [if_neg (by omega), ih (i + 1) (by omega) (by omega) hB', eb, decide_eq_true (show (-604800 : Int) + 604800 ≤ rd l (i : Int) by omega)]
          rfl
        · have eb : leapBefore l i = rd l ((i : Int) - 1) := by unfold leapBefore; rw [if_neg hz]
          have hb := hB (by omega)
          rw [if_pos (by omega), w64 (x := (i : Int) - 1) (by omega) (by omega), if_pos (by omega), if_pos (by omega), w64 (x := rd l ((i : Int) - 1) + 604800) (by omega) (by omega), eb]
          by_cases hc : rd l ((i : Int) - 1) + 604800 ≤ rd l i
          · rw [if_neg (by omega), ih (i + 1) (by omega) (by omega) hB', decide_eq_true hc]
            rfl
          · rw [if_pos (by omega), decide_eq_false hc]
            rfl
      · rw [if_neg (by rw [decide_eq_false g0]; decide), decide_eq_false g0]
        rfl
    · have e : i = l.length := by omega
      have ed : decide ((l.length : Int) ≤ 8) = decide (l.length ≤ 8) := by rw [decide_eq_decide]; omega
      rw [if_neg (by omega), e, List.drop_length, ed]
      rfl

theorem iLv_eq {l : List Int} (hl : l.length ≤ 1000000) {k : Nat} (hk : l.length < k) : impl_ValidLeaps.f k l = some (lv l) := by
  unfold impl_ValidLeaps.f
  have h := iLv_l0 l hl k 0 (Nat.zero_le _) (by omega) (fun h => absurd h (by omega))
  rw [List.drop_zero] at h
  exact h

/-- How many leap seconds are before a time; whether a time is one. -/
def bl (t : Int) : List Int → Int
  | [] => 0
  | x :: l => (if x < t then 1 else 0) + bl t l
def inB (t : Int) : List Int → Bool
  | [] => false
  | x :: l => decide (x = t) || inB t l

theorem bl_rng (t : Int) : ∀ l : List Int, 0 ≤ bl t l ∧ bl t l ≤ l.length
  | [] => ⟨Int.le_refl _, Int.le_refl _⟩
  | x :: l => by
    have := bl_rng t l
    unfold bl
    rw [List.length_cons]
    split <;> omega

theorem bl_in (t : Int) : ∀ l : List Int, bl t l + (if inB t l = true then 1 else 0) ≤ l.length
  | [] => by show (0 : Int) + (if false = true then 1 else 0) ≤ 0; rw [if_neg (by decide)]; omega
  | x :: l => by
    have h1 := bl_in t l
    have h2 := bl_rng t l
    unfold bl inB
    rw [List.length_cons]
    by_cases hx : x = t
    · rw [if_neg (by omega), decide_eq_true hx, Bool.true_or, if_pos rfl]; omega
    · rw [decide_eq_false hx, Bool.false_or]
      split <;> omega

theorem iBl_l0 (l : List Int) (hl : l.length ≤ 1000000) (t : Int) : ∀ (k i : Nat) (acc : Int), i ≤ l.length → l.length - i < k → 0 ≤ acc → acc ≤ i →
    impl_leapsBefore.l0 k t acc l (l.length : Int) (i : Int) = some (acc + bl t (l.drop i)) := by
  intro k
  induction k with
  | zero => intro i _ _ hk; omega
  | succ k ih =>
    intro i acc hi hk h0 h1
    simp only [impl_leapsBefore.l0]
    by_cases hlt : i < l.length
    · rw [if_pos (by omega), if_pos (by omega), if_pos (by omega), leap_rd hlt, List.drop_eq_getElem_cons hlt, wsucc (by omega), w64 (x := acc + 1) (by omega) (by omega)]
      unfold bl
      by_cases hx : l[i] < t
      · rw [if_pos hx, if_pos hx, ih (i + 1) (acc + 1) (by omega) (by omega) (by omega) (by omega), Int.add_assoc]
      · rw [if_neg hx, if_neg hx, ih (i + 1) acc (by omega) (by omega) (by omega) (by omega), Int.zero_add]
    · have e : i = l.length := by omega
      rw [if_neg (by omega), e, List.drop_length]
      unfold bl
      rw [Int.add_zero]

theorem iBl_eq {l : List Int} (hl : l.length ≤ 1000000) {k : Nat} (hk : l.length < k) (t : Int) : impl_leapsBefore.f k l t = some (bl t l) := by
  unfold impl_leapsBefore.f
  have h := iBl_l0 l hl t k 0 0 (Nat.zero_le _) (by omega) (by omega) (by omega)
  rw [List.drop_zero, Int.zero_add] at h
  exact h

theorem toInt_eq (b : Bool) : spec_toInt.f b = some (if b = true then 1 else 0) := by
  unfold spec_toInt.f; cases b <;> rfl

theorem sBl_l0 (l : List Int) (hl : l.length ≤ 1000000) (t : Int) : ∀ (k i : Nat) (acc : Int), i ≤ l.length → l.length - i < k → 0 ≤ acc → acc ≤ i →
    spec_leapsBefore.l0 k l t acc (i : Int) = some (acc + bl t (l.drop i)) := by
  intro k
  induction k with
  | zero => intro i _ _ hk; omega
  | succ k ih =>
    intro i acc hi hk h0 h1
    simp only [spec_leapsBefore.l0]
    by_cases hlt : i < l.length
    · rw [if_pos (by omega), if_pos (by omega), leap_rd hlt, toInt_eq]
      simp only [Option.bind_some]
      rw [List.drop_eq_getElem_cons hlt, wsucc (by omega)]
      have e : (if decide (l[i] < t) = true then (1 : Int) else 0) = (if l[i] < t then 1 else 0) := by
        by_cases hx : l[i] < t
        · rw [if_pos hx, if_pos (decide_eq_true hx)]
        · rw [if_neg hx, if_neg (by rw [decide_eq_false hx]; decide)]
      rw [e, bl.eq_2]
      have hb : 0 ≤ (if l[i] < t then (1 : Int) else 0) ∧ (if l[i] < t then (1 : Int) else 0) ≤ 1 := by split <;> omega
      generalize (if l[i] < t then (1 : Int) else 0) = b at hb ⊢
      rw [w64 (x := acc + b) (by omega) (by omega), ih (i + 1) (acc + b) (by omega) (by omega) (by omega) (by omega), Int.add_assoc]
    · have e : i = l.length := by omega
      rw [if_neg (by omega), e, List.drop_length]
      unfold bl
      rw [Int.add_zero]

theorem sBl_eq {l : List Int} (hl : l.length ≤ 1000000) {k : Nat} (hk : l.length < k) (t : Int) : spec_leapsBefore.f k l t = some (bl t l) := by
  unfold spec_leapsBefore.f
  have h := sBl_l0 l hl t k 0 0 (Nat.zero_le _) (by omega) (by omega) (by omega)
  rw [List.drop_zero, Int.zero_add] at h
  exact h

theorem sIn_l0 (l : List Int) (hl : l.length ≤ 1000000) (t : Int) : ∀ (k i : Nat), i ≤ l.length → l.length - i < k → spec_inLeap.l0 k l t (i : Int) = some (inB t (l.drop i)) := by
  intro k
  induction k with
  | zero => intro i _ hk; omega
  | succ k ih =>
    intro i hi hk
    simp only [spec_inLeap.l0]
    by_cases hlt : i < l.length
    · rw [if_pos (by omega), if_pos (by omega), leap_rd hlt, List.drop_eq_getElem_cons hlt, wsucc (by omega), inB.eq_2]
      by_cases hx : l[i] = t
      · rw [if_pos hx, decide_eq_true hx, Bool.true_or]
      · rw [if_neg hx, decide_eq_false hx, Bool.false_or, ih (i + 1) (by omega) (by omega)]
    · have e : i = l.length := by omega
      rw [if_neg (by omega), e, List.drop_length]
      rfl

theorem sIn_eq {l : List Int} (hl : l.length ≤ 1000000) {k : Nat} (hk : l.length < k) (t : Int) : spec_inLeap.f k l t = some (inB t l) := by
  unfold spec_inLeap.f
  have h := sIn_l0 l hl t k 0 (Nat.zero_le _) (by omega)
  rw [List.drop_zero] at h
  exact h

theorem ix_l0 (l : List Int) (hl : l.length ≤ 1000000) (t : Int) : ∀ (k i : Nat), i ≤ l.length → l.length - i < k → ∃ r, slices_Index_int_int.l0 k l t (l.length : Int) (i : Int) = some r ∧ decide (r ≥ 0) = inB t (l.drop i) := by
  intro k
  induction k with
  | zero => intro i _ hk; omega
  | succ k ih =>
    intro i hi hk
    simp only [slices_Index_int_int.l0]
    by_cases hlt : i < l.length
    · rw [if_pos (by omega), if_pos (by omega), if_pos (by omega), leap_rd hlt, List.drop_eq_getElem_cons hlt, wsucc (by omega), inB.eq_2]
      by_cases hx : t = l[i]
      · rw [if_pos hx]
        exact ⟨_, rfl, by rw [decide_eq_true hx.symm, Bool.true_or, decide_eq_true (by omega)]⟩
      · rw [if_neg hx, decide_eq_false (fun q => hx q.symm), Bool.false_or]
        exact ih (i + 1) (by omega) (by omega)
    · have e : i = l.length := by omega
      rw [if_neg (by omega), e, List.drop_length]
      exact ⟨_, rfl, rfl⟩

theorem has_eq {l : List Int} (hl : l.length ≤ 1000000) {k : Nat} (hk : l.length < k) (t : Int) : slices_Contains_int_int.f k l t = some (inB t l) := by
  unfold slices_Contains_int_int.f slices_Index_int_int.f
  obtain ⟨r, h1, h2⟩ := ix_l0 l hl t k 0 (Nat.zero_le _) (by omega)
  rw [List.drop_zero] at h2
  rw [show ((0 : Nat) : Int) = 0 from rfl] at h1
  rw [h1]; simp only [Option.bind_some]
  rw [h2]

/-- The civil time. -/
def CIV (l : List Int) (t : Int) : Int := t - bl t l - (if inB t l = true then 1 else 0)

theorem CIV_rng (l : List Int) (t : Int) : t - l.length ≤ CIV l t ∧ CIV l t ≤ t := by
  have h1 := bl_in t l
  have h2 := bl_rng t l
  have h3 : 0 ≤ (if inB t l = true then (1 : Int) else 0) := by split <;> omega
  unfold CIV
  omega

theorem iCiv_eq {l : List Int} (hl : l.length ≤ 1000) {k : Nat} (hk : l.length < k) {t : Int} (h1 : -1000000000000 ≤ t) (h2 : t ≤ 1000000000000) : impl_civilOf.f k l t = some (CIV l t) := by
  unfold impl_civilOf.f CIV
  rw [iBl_eq (by omega) hk]; simp only [Option.bind_some]
  rw [has_eq (by omega) hk]; simp only [Option.bind_some]
  have hb := bl_rng t l
  rw [w64 (x := t - bl t l) (by omega) (by omega)]
  by_cases h : inB t l = true
  · rw [if_pos h, if_pos h, w64 (by omega) (by omega)]
  · rw [if_neg h, if_neg h, Int.sub_zero]

def CO (l : List Int) (t : Int) : Int := if lv l = true then (if 0 ≤ t ∧ t ≤ 3786479999 then CIV l t else -1) else -1

theorem iCO_eq {l : List Int} (hl : l.length ≤ 1000) {k : Nat} (hk : l.length < k) (t : Int) : impl_CivilOf.f k l t = some (CO l t) := by
  unfold impl_CivilOf.f impl_isTime.f CO
  rw [iLv_eq (by omega) hk]; simp only [Option.bind_some]
  rw [within_eq]; simp only [Option.bind_some]
  by_cases h : lv l = true
  · rw [if_pos h, if_pos h]
    by_cases h2 : 0 ≤ t ∧ t ≤ 3786479999
    · rw [if_pos (decide_eq_true h2), if_pos h2, iCiv_eq hl hk (by omega) (by omega)]; simp only [Option.bind_some]
    · rw [if_neg (by rw [decide_eq_false h2]; decide), if_neg h2]
  · rw [if_neg h, if_neg h]

theorem CO_t {l : List Int} {t : Int} (h : lv l = true) (h2 : 0 ≤ t ∧ t ≤ 3786479999) : CO l t = CIV l t := by unfold CO; rw [if_pos h, if_pos h2]

def LS (l : List Int) (t : Int) : Bool := lv l && inB t l

theorem sCO_eq {l : List Int} (hl : l.length ≤ 1000) {k : Nat} (hk : l.length + 1 < k) (t : Int) : spec_CivilOf.f k l t = some (CO l t) := by
  unfold spec_CivilOf.f spec_validTime.f CO
  rw [sLv_eq]; simp only [Option.bind_some]
  rw [spec_inRange.eq]; simp only [Option.bind_some]
  obtain ⟨k, rfl⟩ : ∃ m, k = m + 1 := ⟨k - 1, by omega⟩
  by_cases h : lv l = true
  · rw [if_pos h, if_pos h]
    simp only [spec_CivilOf.j0]
    by_cases h2 : 0 ≤ t ∧ t ≤ 3786479999
    · rw [if_neg (by rw [decide_eq_true h2]; decide), if_pos h2, sBl_eq (by omega) (by omega)]
      simp only [Option.bind_some]
      rw [sIn_eq (by omega) (by omega)]
      simp only [Option.bind_some]
      rw [toInt_eq]
      simp only [Option.bind_some]
      unfold CIV
      have hb := bl_rng t l
      have h3 : 0 ≤ (if inB t l = true then (1 : Int) else 0) ∧ (if inB t l = true then (1 : Int) else 0) ≤ 1 := by split <;> omega
      rw [w64 (x := t - bl t l) (by omega) (by omega), w64 (by omega) (by omega)]
    · rw [if_pos (by rw [decide_eq_false h2]; rfl), if_neg h2]
  · rw [if_neg h, if_neg h]
    simp only [spec_CivilOf.j0]
    rw [if_pos (by trivial)]

theorem iLS_eq {l : List Int} (hl : l.length ≤ 1000) {k : Nat} (hk : l.length < k) (t : Int) : impl_IsLeapSecond.f k l t = some (LS l t) := by
  unfold impl_IsLeapSecond.f LS
  rw [iLv_eq (by omega) hk]; simp only [Option.bind_some]
  rw [has_eq (by omega) hk]; simp only [Option.bind_some]
  cases lv l <;> simp

theorem LS_t {l : List Int} (h : lv l = true) (t : Int) : LS l t = inB t l := by unfold LS; rw [h, Bool.true_and]

theorem leaps_low : ∀ (l : List Int) (p : Int), leapsOk p l = true → ∀ y ∈ l, p + 604800 ≤ y ∧ 1 ≤ y ∧ y ≤ 1893239999
  | [], p, _, y, hy => by simp at hy
  | x :: l, p, h, y, hy => by
    have h' : decide (1 ≤ x ∧ x ≤ 1893239999) = true ∧ decide (p + 604800 ≤ x) = true ∧ leapsOk x l = true := by
      have := h; unfold leapsOk at this; rw [Bool.and_eq_true, Bool.and_eq_true] at this; exact this
    have h1 := of_decide_eq_true h'.1
    have h2 := of_decide_eq_true h'.2.1
    rcases List.mem_cons.1 hy with rfl | hy
    · omega
    · have := leaps_low l x h'.2.2 y hy
      omega

theorem inB_mem (t : Int) : ∀ l : List Int, inB t l = true ↔ t ∈ l
  | [] => by unfold inB; simp
  | x :: l => by
    unfold inB
    rw [Bool.or_eq_true, decide_eq_true_eq, inB_mem t l, List.mem_cons]
    constructor
    · rintro (h | h)
      · exact .inl h.symm
      · exact .inr h
    · rintro (h | h)
      · exact .inl h.symm
      · exact .inr h

theorem leaps_tail {x : Int} {l : List Int} {p : Int} (h : leapsOk p (x :: l) = true) : leapsOk x l = true := by
  unfold leapsOk at h; rw [Bool.and_eq_true, Bool.and_eq_true] at h; exact h.2.2

theorem bl_succ : ∀ (l : List Int) (p t : Int), leapsOk p l = true → bl (t + 1) l = bl t l + (if inB t l = true then 1 else 0)
  | [], p, t, _ => by unfold bl inB; rw [if_neg (by decide)]; rfl
  | x :: l, p, t, h => by
    have ht := leaps_tail h
    have hr := bl_succ l x t ht
    unfold bl inB
    by_cases hx : x = t
    · have hn : inB t l = false := by
        cases hq : inB t l with
        | false => rfl
        | true => have := leaps_low l x ht t ((inB_mem t l).1 hq); omega
      rw [hn, if_neg (by decide)] at hr
      rw [hr, decide_eq_true hx, Bool.true_or, if_pos rfl, if_pos (by omega), if_neg (by omega)]
      omega
    · rw [hr, decide_eq_false hx, Bool.false_or]
      have e : (if x < t + 1 then (1 : Int) else 0) = (if x < t then 1 else 0) := by
        by_cases hq : x < t
        · rw [if_pos hq, if_pos (by omega)]
        · rw [if_neg hq, if_neg (by omega)]
      rw [e]; omega

theorem CIV_succ {l : List Int} (h : lv l = true) (t : Int) : CIV l (t + 1) = CIV l t + 1 - (if inB (t + 1) l = true then 1 else 0) := by
  unfold lv at h
  rw [Bool.and_eq_true] at h
  have h1 := bl_succ l _ t h.1
  unfold CIV
  omega

/-- Two leap seconds are never next to each other. -/
theorem leap_apart : ∀ (l : List Int) (p t : Int), leapsOk p l = true → inB t l = true → inB (t + 1) l = true → False
  | [], p, t, _, h, _ => by unfold inB at h; exact absurd h (by decide)
  | x :: l, p, t, h, h1, h2 => by
    have ht := leaps_tail h
    have m1 := (inB_mem _ _).1 h1
    have m2 := (inB_mem _ _).1 h2
    rcases List.mem_cons.1 m1 with e1 | m1
    · rcases List.mem_cons.1 m2 with e2 | m2
      · omega
      · have := leaps_low l x ht _ m2; omega
    · rcases List.mem_cons.1 m2 with e2 | m2
      · have := leaps_low l x ht _ m1; omega
      · exact leap_apart l x t ht ((inB_mem _ _).2 m1) ((inB_mem _ _).2 m2)

theorem CIV_mono {l : List Int} (h : lv l = true) (t : Int) : ∀ n : Nat, CIV l t ≤ CIV l (t + n)
  | 0 => by rw [show t + ((0 : Nat) : Int) = t by omega]; exact Int.le_refl _
  | n + 1 => by
    have h1 := CIV_mono h t n
    have h2 := CIV_succ h (t + n)
    rw [show t + ((n + 1 : Nat) : Int) = t + n + 1 by omega]
    have h3 : (if inB (t + n + 1) l = true then (1 : Int) else 0) ≤ 1 := by split <;> omega
    omega

theorem CIV_le {l : List Int} (h : lv l = true) {t u : Int} (hu : t ≤ u) : CIV l t ≤ CIV l u := by
  have := CIV_mono h t (u - t).toNat
  rw [show t + ((u - t).toNat : Int) = u by omega] at this
  exact this

/-- The first time from t on (within n steps) whose civil time is not before c. -/
def sat (l : List Int) (c : Int) : Nat → Int → Int
  | 0, t => t
  | n + 1, t => if CIV l t < c then sat l c n (t + 1) else t

theorem iSat_l0 {l : List Int} (hl : l.length ≤ 10) (c : Int) : ∀ (n k : Nat) (t : Int), c ≤ CIV l (t + n) → n + l.length + 1 < k → 0 ≤ t → t + n ≤ 100000000000 →
    impl_SatelliteOf.l0 k l c t = some (sat l c n t) := by
  intro n
  induction n with
  | zero =>
    intro k t h hk h0 h1
    obtain ⟨k, rfl⟩ : ∃ m, k = m + 1 := ⟨k - 1, by omega⟩
    simp only [impl_SatelliteOf.l0]
    rw [iCiv_eq (by omega) (by omega) (by omega) (by omega)]; simp only [Option.bind_some]
    rw [show t + ((0 : Nat) : Int) = t by omega] at h
    rw [if_neg (by omega)]; rfl
  | succ n ih =>
    intro k t h hk h0 h1
    obtain ⟨k, rfl⟩ : ∃ m, k = m + 1 := ⟨k - 1, by omega⟩
    simp only [impl_SatelliteOf.l0]
    rw [iCiv_eq (by omega) (by omega) (by omega) (by omega)]; simp only [Option.bind_some]
    rw [sat.eq_2]
    by_cases hc : CIV l t < c
    · rw [if_pos hc, if_pos hc, w64 (by omega) (by omega)]
      exact ih k (t + 1) (by rw [show t + 1 + (n : Int) = t + ((n + 1 : Nat) : Int) by omega]; exact h) (by omega) (by omega) (by omega)
    · rw [if_neg hc, if_neg hc]

def SAT (l : List Int) (c : Int) : Int := if lv l = true then (if 0 ≤ c ∧ c ≤ 1893239999 then sat l c l.length c else -1) else -1

theorem iSAT_eq {l : List Int} (hl : l.length ≤ 10) {k : Nat} (hk : 2 * l.length + 2 < k) (c : Int) : impl_SatelliteOf.f k l c = some (SAT l c) := by
  unfold impl_SatelliteOf.f SAT
  rw [iLv_eq (by omega) (by omega)]; simp only [Option.bind_some]
  rw [within_eq]; simp only [Option.bind_some]
  obtain ⟨k, rfl⟩ : ∃ m, k = m + 1 := ⟨k - 1, by omega⟩
  have hr := CIV_rng l (c + l.length)
  by_cases h : lv l = true
  · rw [if_pos h, if_pos h]
    simp only [impl_SatelliteOf.j0]
    by_cases h2 : 0 ≤ c ∧ c ≤ 1893239999
    · rw [if_neg (by rw [decide_eq_true h2]; decide), if_pos h2]
      exact iSat_l0 hl c l.length k c (by omega) (by omega) (by omega) (by omega)
    · rw [if_pos (by rw [decide_eq_false h2]; rfl), if_neg h2]
  · rw [if_neg h, if_neg h]
    simp only [impl_SatelliteOf.j0]
    rw [if_pos (by trivial)]

/-- What the search finds: the first time from t on whose civil time is not before c. -/
theorem sat_is (l : List Int) (c : Int) : ∀ (n : Nat) (t : Int), c ≤ CIV l (t + n) → t ≤ sat l c n t ∧ sat l c n t ≤ t + n ∧ c ≤ CIV l (sat l c n t) ∧ ∀ u, t ≤ u → u < sat l c n t → CIV l u < c
  | 0, t, h => by
    rw [show t + ((0 : Nat) : Int) = t by omega] at h
    unfold sat
    exact ⟨Int.le_refl _, by omega, h, fun u h1 h2 => by omega⟩
  | n + 1, t, h => by
    rw [sat.eq_2]
    by_cases hc : CIV l t < c
    · rw [if_pos hc]
      obtain ⟨h1, h2, h3, h4⟩ := sat_is l c n (t + 1) (by rw [show t + 1 + (n : Int) = t + ((n + 1 : Nat) : Int) by omega]; exact h)
      refine ⟨by omega, by omega, h3, fun u g1 g2 => ?_⟩
      by_cases hu : u = t
      · rw [hu]; exact hc
      · exact h4 u (by omega) g2
    · rw [if_neg hc]
      exact ⟨Int.le_refl _, by omega, by omega, fun u h1 h2 => by omega⟩

theorem SAT_is {l : List Int} (h : lv l = true) {c : Int} (h2 : 0 ≤ c ∧ c ≤ 1893239999) :
    c ≤ SAT l c ∧ SAT l c ≤ c + l.length ∧ c ≤ CIV l (SAT l c) ∧ ∀ u, c ≤ u → u < SAT l c → CIV l u < c := by
  unfold SAT
  rw [if_pos h, if_pos h2]
  have hr := CIV_rng l (c + l.length)
  exact sat_is l c l.length c (by omega)

/-- It is unique. -/
theorem SAT_uniq {l : List Int} (h : lv l = true) {c t : Int} (h2 : 0 ≤ c ∧ c ≤ 1893239999) (g1 : c ≤ t) (g2 : c ≤ CIV l t) (g3 : ∀ u, c ≤ u → u < t → CIV l u < c) : SAT l c = t := by
  obtain ⟨h1, _, h3, h4⟩ := SAT_is h h2
  by_cases a : SAT l c < t
  · have := g3 _ h1 a; omega
  · by_cases b : t < SAT l c
    · have := h4 _ g1 b; omega
    · omega

theorem CIV_step {l : List Int} (h : lv l = true) (t : Int) : CIV l (t + 1) ≤ CIV l t + 1 := by
  have h1 := CIV_succ h t
  have h2 : 0 ≤ (if inB (t + 1) l = true then (1 : Int) else 0) := by split <;> omega
  omega

/-- The civil time comes back, and no leap second is found. -/
theorem SAT_civ {l : List Int} (h : lv l = true) {c : Int} (h2 : 0 ≤ c ∧ c ≤ 1893239999) : CIV l (SAT l c) = c ∧ inB (SAT l c) l = false := by
  obtain ⟨h1, _, h3, h4⟩ := SAT_is h h2
  by_cases e : SAT l c = c
  · have hr := CIV_rng l c
    rw [e] at h3 ⊢
    refine ⟨by omega, ?_⟩
    cases hq : inB c l with
    | false => rfl
    | true =>
      have hb := bl_rng c l
      have : CIV l c = c - bl c l - 1 := by unfold CIV; rw [if_pos hq]
      omega
  · have h5 := h4 (SAT l c - 1) (by omega) (by omega)
    have h6 := CIV_succ h (SAT l c - 1)
    have h7 := CIV_step h (SAT l c - 1)
    rw [show SAT l c - 1 + 1 = SAT l c by omega] at h6 h7
    refine ⟨by omega, ?_⟩
    cases hq : inB (SAT l c) l with
    | false => rfl
    | true => rw [hq, if_pos rfl] at h6; omega

theorem someLeaps_l0 {s : List Int} (hs : Bts s) : ∀ (n k : Nat) (l : List Int) (t p : Int), n + 2 ≤ k → l.length + n ≤ 8 → 0 ≤ p → p + n ≤ 400000 →
    ∃ l' p', spec_someLeaps.l0 k l t (n : Int) s p = some (l', p') ∧ l'.length ≤ 8 ∧ p ≤ p' ∧ p' ≤ p + n := by
  intro n
  induction n with
  | zero =>
    intro k l t p hk hl hp hp2
    obtain ⟨k, rfl⟩ : ∃ m, k = m + 1 := ⟨k - 1, by omega⟩
    simp only [spec_someLeaps.l0]
    rw [if_neg (by omega)]
    exact ⟨l, p, rfl, by omega, by omega, by omega⟩
  | succ n ih =>
    intro k l t p hk hl hp hp2
    obtain ⟨k, rfl⟩ : ∃ m, k = m + 1 := ⟨k - 1, by omega⟩
    simp only [spec_someLeaps.l0]
    rw [if_pos (by omega), if_pos (by omega)]
    obtain ⟨v, h, _⟩ := one_okk hs p [604800, 604801, 31536000, 700000] k (by omega) (by simp) hp (by omega)
    rw [h]; simp only [Option.bind_some]
    have en : wrap64 (((n + 1 : Nat) : Int) - 1) = (n : Int) := by rw [w64 (by omega) (by omega)]; omega
    rw [en]
    obtain ⟨l', p', h5, h6, h7, h8⟩ := ih k (l ++ [t]) (wrap64 (t + v)) (p + 1) (by omega) (by rw [List.length_append, List.length_singleton]; omega) (by omega) (by omega)
    exact ⟨l', p', h5, h6, by omega, by omega⟩

theorem someLeaps_ok {s : List Int} (hs : Bts s) (p : Int) (k : Nat) (hk : 10 ≤ k) (hp : 0 ≤ p) (hp2 : p ≤ 1000) :
    ∃ l p', spec_someLeaps.f k s p = some (l, p') ∧ l.length ≤ 8 ∧ p ≤ p' ∧ p' ≤ p + 10 := by
  unfold spec_someLeaps.f
  obtain ⟨v1, h1, _⟩ := pick_okk hs p 250 k (by omega) hp (by omega)
  rw [h1]; simp only [Option.bind_some]
  obtain ⟨v2, h2, hv⟩ := one_okk hs (p + 1) [2, 3, 4, 1, 0, 8] k (by omega) (by simp) (by omega) (by omega)
  rw [h2]; simp only [Option.bind_some]
  have hv' : 0 ≤ v2 ∧ v2 ≤ 8 := by simp at hv; omega
  obtain ⟨n, rfl⟩ := Int.eq_ofNat_of_zero_le hv'.1
  obtain ⟨l', p', h5, h6, h7, h8⟩ := someLeaps_l0 hs n k [] (wrap64 (1000 + v1)) (p + 1 + 1) (by omega) (by simp; omega) (by omega) (by omega)
  exact ⟨l', p', h5, h6, by omega, by omega⟩

theorem spoil_ok {s : List Int} (hs : Bts s) (p : Int) (l : List Int) (a : Int) (k : Nat) (hk : 1 ≤ k) (hl : l.length ≤ 9) (hp : 0 ≤ p) (hp2 : p ≤ 10000) :
    ∃ l' p', spec_reader_spoil.f k s p l a = some (l', p') ∧ l'.length ≤ 10 ∧ p ≤ p' ∧ p' ≤ p + 3 := by
  unfold spec_reader_spoil.f spec_copyInts.f
  simp only [Option.bind_some]
  rw [if_pos (by simp; omega), List.nil_append]
  simp only [Option.bind_some]
  obtain ⟨v1, h1, _⟩ := pick_okk hs p 20 k hk hp (by omega)
  rw [h1]; simp only [Option.bind_some]
  by_cases c0 : v1 = 0
  · rw [if_pos c0, if_pos (by omega)]
    exact ⟨_, _, rfl, by rw [List.length_append, List.length_singleton]; omega, by omega, by omega⟩
  · rw [if_neg c0]
    by_cases c1 : v1 = 1
    · rw [if_pos c1]
      by_cases g : (l.length : Int) > 0
      · rw [if_pos g, if_pos (by omega)]
        exact ⟨_, _, rfl, by rw [List.length_drop]; omega, by omega, by omega⟩
      · rw [if_neg g]
        exact ⟨_, _, rfl, by omega, by omega, by omega⟩
    · rw [if_neg c1]
      by_cases c2 : v1 = 2
      · rw [if_pos c2]
        by_cases g : (l.length : Int) > 0
        · rw [if_pos g]
          obtain ⟨v2, h2, q0, q1⟩ := pick_okk hs (p + 1) (l.length : Int) k hk (by omega) (by omega)
          rw [h2]; simp only [Option.bind_some]
          obtain ⟨v3, h3, _⟩ := one_okk hs (p + 1 + 1) [(-1), a, 0, 1] k hk (by simp) (by omega) (by omega)
          rw [h3]; simp only [Option.bind_some]
          rw [if_pos q0, if_pos (q1 (by omega))]
          exact ⟨_, _, rfl, by rw [List.length_set]; omega, by omega, by omega⟩
        · rw [if_neg g]
          exact ⟨_, _, rfl, by omega, by omega, by omega⟩
      · rw [if_neg c2]
        exact ⟨_, _, rfl, by omega, by omega, by omega⟩

theorem anyLeaps_ok {s : List Int} (hs : Bts s) (p : Int) (k : Nat) (hk : 10 ≤ k) (hp : 0 ≤ p) (hp2 : p ≤ 900) :
    ∃ l p', spec_anyLeaps.f k s p = some (l, p') ∧ l.length ≤ 10 ∧ p ≤ p' ∧ p' ≤ p + 20 := by
  unfold spec_anyLeaps.f
  obtain ⟨l, p1, h1, hl, q1, q2⟩ := someLeaps_ok hs p k hk hp (by omega)
  rw [h1]; simp only [Option.bind_some]
  obtain ⟨v2, h2, _⟩ := pick_okk hs p1 12 k (by omega) (by omega) (by omega)
  rw [h2]; simp only [Option.bind_some]
  by_cases c0 : v2 = 0
  · rw [if_pos c0]
    obtain ⟨v3, h3, _⟩ := one_okk hs (p1 + 1) [0, 5, 1893240000] k (by omega) (by simp) (by omega) (by omega)
    rw [h3]; simp only [Option.bind_some]
    rw [if_pos (by omega)]
    obtain ⟨l', p', h4, h5, h6, h7⟩ := spoil_ok hs (p1 + 1 + 1) (l ++ [v3]) 604799 k (by omega) (by rw [List.length_append, List.length_singleton]; omega) (by omega) (by omega)
    rw [h4]; simp only [Option.bind_some]
    exact ⟨_, _, rfl, h5, by omega, by omega⟩
  · rw [if_neg c0]
    exact ⟨_, _, rfl, by omega, by omega, by omega⟩

theorem anyTime_ok {s : List Int} (hs : Bts s) (p : Int) (k : Nat) (hk : 1 ≤ k) (hp : 0 ≤ p) (hp2 : p ≤ 10000) :
    ∃ t p', spec_anyTime.f k s p = some (t, p') := by
  unfold spec_anyTime.f
  obtain ⟨v1, h1, _⟩ := pick_okk hs p 12 k hk hp (by omega)
  rw [h1]; simp only [Option.bind_some]
  by_cases c0 : v1 = 0
  · rw [if_pos c0]
    obtain ⟨v2, h2, _⟩ := one_okk hs (p + 1) [(-1), 3786480000] k hk (by simp) (by omega) (by omega)
    rw [h2]; simp only [Option.bind_some]
    exact ⟨_, _, rfl⟩
  · rw [if_neg c0]
    unfold spec_someTime.f
    obtain ⟨v2, h2, _⟩ := pick_okk hs (p + 1) 6 k hk (by omega) (by omega)
    rw [h2]; simp only [Option.bind_some]
    by_cases c1 : v2 = 0
    · rw [if_pos c1]
      obtain ⟨v3, h3, _⟩ := one_okk hs (p + 1 + 1) [0, 1, 604799, 604800, 619315199, 619315200, 3786479999] k hk (by simp) (by omega) (by omega)
      rw [h3]; simp only [Option.bind_some]
      exact ⟨_, _, rfl⟩
    · rw [if_neg c1]
      by_cases c2 : v2 = 1
      · rw [if_pos c2]
        obtain ⟨v3, h3, _⟩ := pick_okk hs (p + 1 + 1) 250 k hk (by omega) (by omega)
        rw [h3]; simp only [Option.bind_some]
        exact ⟨_, _, rfl⟩
      · rw [if_neg c2]
        obtain ⟨v3, h3, _⟩ := pick_okk hs (p + 1 + 1) 200 k hk (by omega) (by omega)
        rw [h3]; simp only [Option.bind_some]
        obtain ⟨v4, h4, _⟩ := pick_okk hs (p + 1 + 1 + 1) 250 k hk (by omega) (by omega)
        rw [h4]; simp only [Option.bind_some]
        exact ⟨_, _, rfl⟩

theorem leapTime_ok {s : List Int} (hs : Bts s) (p : Int) (l : List Int) (k : Nat) (hk : 2 ≤ k) (hl : l.length ≤ 10) (hp : 0 ≤ p) (hp2 : p ≤ 5000) :
    ∃ t p', spec_leapTime.f k s p l = some (t, p') := by
  have hj : ∀ (b : Bool) (q : Int), 0 ≤ q → q ≤ 6000 → (b = true → 0 < l.length) → ∃ t p', spec_leapTime.j0 k l b s q = some (t, p') := by
    intro b q hq hq2 hb
    obtain ⟨k, rfl⟩ : ∃ m, k = m + 1 := ⟨k - 1, by omega⟩
    simp only [spec_leapTime.j0]
    cases b with
    | true =>
      have h0 := hb rfl
      rw [if_pos (by trivial)]
      obtain ⟨v1, h1, q0, q1⟩ := pick_okk hs q (l.length : Int) k (by omega) hq (by omega)
      rw [h1]; simp only [Option.bind_some]
      rw [if_pos q0, if_pos (q1 (by omega))]
      obtain ⟨v2, h2, _⟩ := one_okk hs (q + 1) [0, 0, 1, (-1), 2, 5000, (-3)] k (by omega) (by simp) (by omega) (by omega)
      rw [h2]; simp only [Option.bind_some]
      exact ⟨_, _, rfl⟩
    | false =>
      rw [if_neg (by decide)]
      obtain ⟨t, p', h1⟩ := anyTime_ok hs q k (by omega) hq (by omega)
      rw [h1]; simp only [Option.bind_some]
      exact ⟨_, _, rfl⟩
  unfold spec_leapTime.f
  by_cases h0 : (l.length : Int) > 0
  · rw [if_pos h0]
    obtain ⟨v, h, _⟩ := pick_okk hs p 5 k (by omega) hp (by omega)
    rw [h]; simp only [Option.bind_some]
    exact hj _ (p + 1) (by omega) (by omega) (fun _ => by omega)
  · rw [if_neg h0]
    exact hj false p (by omega) (by omega) (fun h => by cases h)

theorem drawLeaps_ok {l : List Int} (h : ∀ x ∈ l, 0 ≤ x ∧ x ≤ 255) (k : Nat) (hk : 10 ≤ k) : ∃ L t, spec_DrawLeapsBefore.f k l = some (L, t) ∧ L.length ≤ 10 := by
  obtain ⟨s, h1, hs⟩ := new_ok h
  unfold spec_DrawLeapsBefore.f
  rw [h1]; simp only [Option.bind_some]
  obtain ⟨L, p, h2, h3, h4, h5⟩ := anyLeaps_ok hs 0 k hk (by omega) (by omega)
  rw [h2]; simp only [Option.bind_some]
  obtain ⟨t, p', h6⟩ := leapTime_ok hs p L k (by omega) h3 (by omega) (by omega)
  rw [h6]; simp only [Option.bind_some]
  exact ⟨_, _, rfl, h3⟩

theorem drawCivil_ok {l : List Int} (h : ∀ x ∈ l, 0 ≤ x ∧ x ≤ 255) (k : Nat) (hk : 10 ≤ k) : ∃ L t, spec_DrawCivilOf.f k l = some (L, t) ∧ L.length ≤ 10 := by
  unfold spec_DrawCivilOf.f
  obtain ⟨L, t, h1, h2⟩ := drawLeaps_ok h k hk
  rw [h1]; simp only [Option.bind_some]
  exact ⟨_, _, rfl, h2⟩

theorem SAT_back {L : List Int} (hv : lv L = true) {t : Int} (h0 : 0 ≤ CIV L t) (h1 : CIV L t ≤ 1893239999) :
    (inB t L = false → SAT L (CIV L t) = t) ∧ (inB t L = true → SAT L (CIV L t) = t - 1) := by
  have hs := CIV_succ hv (t - 1)
  rw [show t - 1 + 1 = t by omega] at hs
  have hr := CIV_rng L t
  have hr1 := CIV_rng L (t - 1)
  refine ⟨fun hi => ?_, fun hi => ?_⟩
  · rw [hi, if_neg (by decide)] at hs
    refine SAT_uniq hv (by omega) (by omega) (by omega) (fun u g1 g2 => ?_)
    have := CIV_le hv (t := u) (u := t - 1) (by omega)
    omega
  · rw [hi, if_pos rfl] at hs
    have hs2 := CIV_succ hv (t - 2)
    rw [show t - 2 + 1 = t - 1 by omega] at hs2
    have hn : inB (t - 1) L = false := by
      cases hq : inB (t - 1) L with
      | false => rfl
      | true =>
        have hlo : leapsOk (-604800) L = true := by unfold lv at hv; rw [Bool.and_eq_true] at hv; exact hv.1
        exact (leap_apart L _ (t - 1) hlo hq (by rw [show t - 1 + 1 = t by omega]; exact hi)).elim
    rw [hn, if_neg (by decide)] at hs2
    refine SAT_uniq hv (by omega) (by omega) (by omega) (fun u g1 g2 => ?_)
    have := CIV_le hv (t := u) (u := t - 2) (by omega)
    omega

theorem FnCivilOfSatellite : laws_FnCivilOfSatellite.Pure := by
  intro l _ _ hw
  refine ⟨59 + 1, ?_⟩
  obtain ⟨L, t, hd, hL10⟩ := drawCivil_ok (bytes_rng hw) (59 + 1) (by omega)
  unfold laws_FnCivilOfSatellite.f
  by_cases hL : (l.length : Int) > 1048576
  · rw [if_pos hL]
  · rw [if_neg hL, hd]
    simp only [Option.bind_some]
    rw [iCO_eq (by omega) (by omega), sCO_eq (by omega) (by omega)]
    simp only [Option.bind_some]
    rw [if_pos (by trivial)]
    have hj : ∀ b : Bool, (b = false → lv L = true ∧ (0 ≤ t ∧ t ≤ 3786479999) ∧ 0 ≤ CIV L t ∧ CIV L t ≤ 1893239999) → laws_FnCivilOfSatellite.j0 (59 + 1) L t (CO L t) b = some true := by
      intro b hb
      simp only [laws_FnCivilOfSatellite.j0]
      cases b with
      | true =>
        rw [if_pos (by trivial), sCO_eq (by omega) (by omega)]
        simp only [Option.bind_some]
        simp
      | false =>
        obtain ⟨hv, ht, h0, h1⟩ := hb rfl
        obtain ⟨n1, n2⟩ := SAT_back hv h0 h1
        rw [if_neg (by decide), iSAT_eq (by omega) (by omega), iLS_eq (by omega) (by omega), LS_t hv, CO_t hv ht, w64 (x := t - 1) (by omega) (by omega)]
        simp only [Option.bind_some]
        cases hi : inB t L with
        | true =>
          rw [n2 hi, if_neg (by omega), if_pos (by trivial)]
        | false =>
          rw [n1 hi, if_pos (by trivial), if_neg (by decide)]
    by_cases h0 : CO L t < 0
    · rw [if_pos h0]
      exact hj true (fun h => by cases h)
    · rw [if_neg h0]
      refine hj _ (fun h => ?_)
      unfold CO at h0 h
      have hv : lv L = true := by
        by_cases hv : lv L = true
        · exact hv
        · rw [if_neg hv] at h0; omega
      rw [if_pos hv] at h0 h
      have ht : 0 ≤ t ∧ t ≤ 3786479999 := by
        by_cases ht : 0 ≤ t ∧ t ≤ 3786479999
        · exact ht
        · rw [if_neg ht] at h0; omega
      rw [if_pos ht] at h0 h
      have h2 := of_decide_eq_false h
      exact ⟨hv, ht, by omega, by omega⟩

end Go.Proofs.Ytpambamjcdohfaa.Pure
