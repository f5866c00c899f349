/- The program's DeviationOf returns what the reference's returns, for all phases and steps, and leaves its argument as it was. For every input; no condition. -/
import Derived.Test.YtlledohifanieaaPAllx7
import Derived.Test.YtlledohifanieaaBase
namespace Go.Proofs.Ytlledohifanieaa.Pure
open Go.RowKit Go.Proofs.Ytlledohifanieaa.PAll Go.Proofs.YtlledohifanieaaW.PrintWords Go.Proofs.YtlledohifanieaaW.PrintLast Go.Proofs.YtlledohifanieaaW.PrintMore Go.Proofs.Ytlledohifanieaa.Base
set_option linter.unusedVariables false
set_option linter.unusedSimpArgs false

theorem wsucc {i : Nat} (h : i < 1152921504606846976) : wrap64 ((i : Int) + 1) = ((i + 1 : Nat) : Int) := by
  rw [w64 (by omega) (by omega)]; omega

theorem inRange_eq (a b c : Int) : spec_inRange.f a b c = some (decide (b ≤ a ∧ a ≤ c)) := by
  unfold spec_inRange.f
  by_cases h : b ≤ a
  · rw [if_pos h]; simp [h]
  · rw [if_neg h]; simp [h]

theorem rdI {l : List Int} {i : Nat} (h : i < l.length) : rd l (i : Int) = l[i] := by
  unfold rd
  rw [Int.toNat_natCast, List.getD_eq_getElem?_getD, List.getElem?_eq_getElem h]; rfl

/-- Valid phases. -/
def vph (l : List Int) : Bool := decide (l.length ≤ 16) && l.all phOk
theorem iVP_eq (l : List Int) : impl_phasesValid.f l = some (vph l) := rfl

theorem vph_iff (l : List Int) : vph l = true ↔ l.length ≤ 16 ∧ ∀ x ∈ l, -1000000 ≤ x ∧ x ≤ 1000000 := by
  unfold vph phOk
  rw [Bool.and_eq_true, decide_eq_true_eq, List.all_eq_true]
  constructor
  · intro ⟨h1, h2⟩; exact ⟨h1, fun x hx => of_decide_eq_true (h2 x hx)⟩
  · intro ⟨h1, h2⟩; exact ⟨h1, fun x hx => decide_eq_true (h2 x hx)⟩

theorem allIn_l0 (l : List Int) (hl : l.length ≤ 1152921504606846975) : ∀ (k i : Nat), i ≤ l.length → l.length - i < k →
    spec_allIn.l0 k l (-1000000) 1000000 (i : Int) = some ((l.drop i).all phOk) := by
  intro k
  induction k with
  | zero => intro i _ hk; omega
  | succ k ih =>
    intro i hi hk
    simp only [spec_allIn.l0]
    by_cases hlt : i < l.length
    · rw [if_pos (by omega), if_pos (by omega), rdI hlt, inRange_eq]
      simp only [Option.bind_some]
      rw [List.drop_eq_getElem_cons hlt, List.all_cons, wsucc (by omega)]
      have e : decide (-1000000 ≤ l[i] ∧ l[i] ≤ 1000000) = phOk l[i] := rfl
      rw [e]
      cases ho : phOk l[i] with
      | true => rw [if_pos (by trivial), ih (i + 1) (by omega) (by omega)]; rfl
      | false => rw [if_neg (by decide)]; rfl
    · have e : i = l.length := by omega
      rw [if_neg (by omega), e, List.drop_length]
      rfl

theorem sVP_eq {l : List Int} (hl : l.length ≤ 1152921504606846975) {k : Nat} (hk : l.length < k) : spec_validPhases.f k l = some (vph l) := by
  unfold spec_validPhases.f vph
  by_cases h : l.length ≤ 16
  · unfold spec_allIn.f
    have e := allIn_l0 l hl k 0 (Nat.zero_le _) (by omega)
    rw [List.drop_zero] at e
    rw [show ((0 : Nat) : Int) = 0 from rfl] at e
    rw [if_pos (by omega), e, decide_eq_true h]
    rfl
  · rw [if_neg (by omega), decide_eq_false h]; rfl

theorem within_eq (a b c : Int) : impl_within.f a b c = some (decide (b ≤ a ∧ a ≤ c)) := by
  unfold impl_within.f
  by_cases h : b ≤ a
  · rw [if_pos h]; simp [h]
  · rw [if_neg h]; simp [h]

theorem SD_l0 (l : List Int) (h16 : l.length ≤ 16) (hr : ∀ x ∈ l, -1000000 ≤ x ∧ x ≤ 1000000) (s : Int) (hs : 1 ≤ s ∧ s ≤ 16) : ∀ (d i : Nat) (acc : List Int), l.length - i = d → i ≤ l.length → acc.length ≤ i → (∀ v ∈ acc, -4000000 ≤ v ∧ v ≤ 4000000) →
    ∃ y, y.length ≤ 16 ∧ (∀ v ∈ y, -4000000 ≤ v ∧ v ≤ 4000000) ∧ ∀ k, d < k → impl_SecondDiffs.l0 k l s acc (i : Int) = some y ∧ spec_SecondDiffs.l0 k l s acc (i : Int) = some y := by
  intro d
  induction d with
  | zero =>
    intro i acc hd hi ha hv
    refine ⟨acc, by omega, hv, fun k hk => ?_⟩
    obtain ⟨k, rfl⟩ : ∃ m, k = m + 1 := ⟨k - 1, by omega⟩
    refine ⟨?_, ?_⟩ <;> (simp only [impl_SecondDiffs.l0, spec_SecondDiffs.l0]; rw [w64 (x := 2 * s) (by omega) (by omega), w64 (x := (i : Int) + 2 * s) (by omega) (by omega), if_neg (by omega)])
  | succ d ih =>
    intro i acc hd hi ha hv
    by_cases hc : (i : Int) + 2 * s < l.length
    · have r1 := rd_rng hr (by omega) (by omega) ((i : Int) + 2 * s)
      have r2 := rd_rng hr (by omega) (by omega) ((i : Int) + s)
      have r3 := rd_rng hr (by omega) (by omega) (i : Int)
      have hb : -4000000 ≤ wrap64 ((wrap64 ((rd l ((i : Int) + 2 * s)) - (wrap64 (2 * (rd l ((i : Int) + s)))))) + (rd l (i : Int))) ∧ wrap64 ((wrap64 ((rd l ((i : Int) + 2 * s)) - (wrap64 (2 * (rd l ((i : Int) + s)))))) + (rd l (i : Int))) ≤ 4000000 := by
        generalize rd l ((i : Int) + 2 * s) = a at r1 ⊢
        generalize rd l ((i : Int) + s) = b at r2 ⊢
        generalize rd l (i : Int) = c at r3 ⊢
        rw [w64 (x := 2 * b) (by omega) (by omega), w64 (x := a - 2 * b) (by omega) (by omega), w64 (by omega) (by omega)]
        omega
      generalize hq : wrap64 ((wrap64 ((rd l ((i : Int) + 2 * s)) - (wrap64 (2 * (rd l ((i : Int) + s)))))) + (rd l (i : Int))) = q at hb
      obtain ⟨y, h1, h2, h3⟩ := ih (i + 1) (acc ++ [q]) (by omega) (by omega) (by rw [List.length_append, List.length_singleton]; omega) (by
        intro v hm
        rcases List.mem_append.1 hm with e | e
        · exact hv v e
        · rw [List.mem_singleton.1 e]; exact hb)
      refine ⟨y, h1, h2, fun k hk => ?_⟩
      obtain ⟨k, rfl⟩ : ∃ m, k = m + 1 := ⟨k - 1, by omega⟩
      refine ⟨?_, ?_⟩ <;> (simp only [impl_SecondDiffs.l0, spec_SecondDiffs.l0]; rw [w64 (x := 2 * s) (by omega) (by omega), w64 (x := (i : Int) + 2 * s) (by omega) (by omega), w64 (x := (i : Int) + s) (by omega) (by omega), if_pos (by omega), if_pos (by omega), if_pos (by omega), if_pos (by omega), if_pos (by omega), if_pos (by omega), if_pos (by omega), wsucc (by omega), hq]; first | exact (h3 k (by omega)).1 | exact (h3 k (by omega)).2)
    · refine ⟨acc, by omega, hv, fun k hk => ?_⟩
      obtain ⟨k, rfl⟩ : ∃ m, k = m + 1 := ⟨k - 1, by omega⟩
      refine ⟨?_, ?_⟩ <;> (simp only [impl_SecondDiffs.l0, spec_SecondDiffs.l0]; rw [w64 (x := 2 * s) (by omega) (by omega), w64 (x := (i : Int) + 2 * s) (by omega) (by omega), if_neg (by omega)])

theorem SD_eq (l : List Int) (hl : l.length ≤ 1048577) (s : Int) :
    ∃ y, y.length ≤ 16 ∧ (∀ v ∈ y, -4000000 ≤ v ∧ v ≤ 4000000) ∧ ∀ k, l.length + 20 < k → impl_SecondDiffs.f k l s = some y ∧ spec_SecondDiffs.f k l s = some y := by
  by_cases hv : vph l = true
  · obtain ⟨h16, hr⟩ := (vph_iff l).1 hv
    by_cases hs : 1 ≤ s ∧ s ≤ 16
    · obtain ⟨y, h1, h2, h3⟩ := SD_l0 l h16 hr s hs (l.length - 0) 0 [] rfl (Nat.zero_le _) (Nat.le_refl _) (fun v h => by cases h)
      refine ⟨y, h1, h2, fun k hk => ?_⟩
      obtain ⟨g1, g2⟩ := h3 (k - 1) (by omega)
      obtain ⟨k, rfl⟩ : ∃ m, k = m + 1 := ⟨k - 1, by omega⟩
      rw [Nat.add_sub_cancel] at g1 g2
      refine ⟨?_, ?_⟩
      · unfold impl_SecondDiffs.f
        rw [iVP_eq, within_eq]
        simp only [Option.bind_some, impl_SecondDiffs.j0]
        rw [hv, decide_eq_true hs, if_pos (by trivial), if_neg (by decide)]; exact g1
      · unfold spec_SecondDiffs.f
        rw [sVP_eq (by omega) (by omega), inRange_eq]
        simp only [Option.bind_some, spec_SecondDiffs.j0]
        rw [hv, decide_eq_true hs, if_pos (by trivial), if_neg (by decide)]; exact g2
    · refine ⟨[], by simp, (fun v h => by cases h), fun k hk => ?_⟩
      obtain ⟨k, rfl⟩ : ∃ m, k = m + 1 := ⟨k - 1, by omega⟩
      refine ⟨?_, ?_⟩
      · unfold impl_SecondDiffs.f
        rw [iVP_eq, within_eq]
        simp only [Option.bind_some, impl_SecondDiffs.j0]
        rw [hv, decide_eq_false hs, if_pos (by trivial), if_pos (by decide)]
      · unfold spec_SecondDiffs.f
        rw [sVP_eq (by omega) (by omega), inRange_eq]
        simp only [Option.bind_some, spec_SecondDiffs.j0]
        rw [hv, decide_eq_false hs, if_pos (by trivial), if_pos (by decide)]
  · refine ⟨[], by simp, (fun v h => by cases h), fun k hk => ?_⟩
    obtain ⟨k, rfl⟩ : ∃ m, k = m + 1 := ⟨k - 1, by omega⟩
    refine ⟨?_, ?_⟩
    · unfold impl_SecondDiffs.f
      rw [iVP_eq]
      simp only [Option.bind_some, impl_SecondDiffs.j0]
      rw [if_neg hv, if_pos (by trivial)]
    · unfold spec_SecondDiffs.f
      rw [sVP_eq (by omega) (by omega)]
      simp only [Option.bind_some, spec_SecondDiffs.j0]
      rw [if_neg hv, if_pos (by trivial)]

theorem to_l0 (x : List Int) (hx : x.length ≤ 1048576) : ∀ (k i : Nat) (acc : List Int), acc.length = x.length → i ≤ x.length → x.length - i < k →
    laws_toIntS.l0 k x acc (i : Int) = some (acc.take i ++ x.drop i) := by
  intro k
  induction k with
  | zero => intro i _ _ _ hk; omega
  | succ k ih =>
    intro i acc ha hi hk
    simp only [laws_toIntS.l0]
    by_cases hlt : i < x.length
    · rw [if_pos (by omega), if_pos (by omega), if_pos (by omega), rdI hlt, Int.toNat_natCast, wsucc (by omega), ih (i + 1) _ (by rw [List.length_set]; exact ha) (by omega) (by omega)]
      rw [List.drop_eq_getElem_cons hlt, List.take_succ_eq_append_getElem (by rw [List.length_set]; omega), List.getElem_set_self, List.take_set_of_le (Nat.le_refl i), List.append_assoc]
      rfl
    · have e : i = x.length := by omega
      rw [if_neg (by omega), e, List.drop_length, List.append_nil, ← ha, List.take_length]

theorem to_eq {x : List Int} (hx : x.length ≤ 1048576) {k : Nat} (hk : x.length < k) : laws_toIntS.f k x = some x := by
  unfold laws_toIntS.f
  rw [if_pos (by omega), if_pos (by omega)]
  have h := to_l0 x hx k 0 (List.replicate ((x.length : Int) : Int).toNat 0) (by rw [List.length_replicate, Int.toNat_natCast]) (Nat.zero_le _) (by omega)
  rw [List.take_zero, List.drop_zero, List.nil_append] at h
  exact h

theorem eqX_l0 (x : List Int) (hx : x.length ≤ 1048577) : ∀ (k i : Nat), i ≤ x.length → x.length - i < k → laws_eqIntS.l0 k x x (i : Int) = some true := by
  intro k
  induction k with
  | zero => intro i _ hk; omega
  | succ k ih =>
    intro i hi hk
    simp only [laws_eqIntS.l0]
    by_cases hlt : i < x.length
    · rw [if_pos (by omega), if_pos (by omega), if_pos (by omega), if_pos (by trivial), wsucc (by omega)]
      exact ih (i + 1) (by omega) (by omega)
    · rw [if_neg (by omega)]

theorem eqX_eq {x : List Int} (hx : x.length ≤ 1048577) {k : Nat} (hk : x.length < k) : laws_eqIntS.f k x x = some true := by
  unfold laws_eqIntS.f
  rw [if_pos rfl]
  exact eqX_l0 x hx k 0 (Nat.zero_le _) (by omega)

theorem sq_nn {v : Int} (h0 : 0 ≤ v) (h : v ≤ 4000000) : 0 ≤ v * v ∧ v * v ≤ 16000000000000 := by
  refine ⟨Int.mul_nonneg h0 h0, ?_⟩
  have := Int.mul_le_mul h h h0 (by omega)
  omega

theorem sq_rng {v : Int} (h : -4000000 ≤ v ∧ v ≤ 4000000) : 0 ≤ v * v ∧ v * v ≤ 16000000000000 := by
  rcases Int.le_total 0 v with h0 | h0
  · exact sq_nn h0 h.2
  · have e : v * v = (-v) * (-v) := by rw [Int.neg_mul_neg]
    rw [e]
    exact sq_nn (by omega) (by omega)

theorem dev_l0 (y : List Int) (h1 : 0 < y.length) (h16 : y.length ≤ 16) (hr : ∀ v ∈ y, -4000000 ≤ v ∧ v ≤ 4000000) : ∀ (d i : Nat) (n : Int), y.length - i = d → i ≤ y.length → 0 ≤ n → n ≤ 16000000000000 * i →
    ∃ v, ∀ k, d < k → impl_DeviationOf.l0 k y n y (y.length : Int) (i : Int) = some v ∧ spec_DeviationOf.l0 k n y (i : Int) = some v := by
  intro d
  induction d with
  | zero =>
    intro i n hd hi h0 hn
    refine ⟨wrap64 (Int.tdiv n (2 * (y.length : Int))), fun k hk => ?_⟩
    obtain ⟨k, rfl⟩ : ∃ m, k = m + 1 := ⟨k - 1, by omega⟩
    simp only [impl_DeviationOf.l0, spec_DeviationOf.l0]
    rw [w64 (x := 2 * (y.length : Int)) (by omega) (by omega), if_neg (by omega), if_neg (by omega), if_neg (by omega)]
    exact ⟨rfl, rfl⟩
  | succ d ih =>
    intro i n hd hi h0 hn
    have hlt : i < y.length := by omega
    have hq := sq_rng (hr y[i] (List.getElem_mem hlt))
    obtain ⟨v, hv⟩ := ih (i + 1) (n + y[i] * y[i]) (by omega) (by omega) (by omega) (by omega)
    refine ⟨v, fun k hk => ?_⟩
    obtain ⟨k, rfl⟩ : ∃ m, k = m + 1 := ⟨k - 1, by omega⟩
    have hv2 := hv k (by omega)
    simp only [impl_DeviationOf.l0, spec_DeviationOf.l0]
    rw [rdI hlt]
    generalize y[i] * y[i] = q at hq hv2 ⊢
    rw [w64 (x := q) (by omega) (by omega), w64 (x := n + q) (by omega) (by omega), wsucc (by omega), if_pos (by omega), if_pos (by omega), if_pos (by omega), if_pos (by omega), if_pos (by omega)]
    exact hv2

theorem dev_eq (l : List Int) (hl : l.length ≤ 1048577) (s : Int) : ∃ v, ∀ k, l.length + 20 < k → impl_DeviationOf.f k l s = some v ∧ spec_DeviationOf.f k l s = some v := by
  obtain ⟨y, h1, h2, h3⟩ := SD_eq l hl s
  by_cases h0 : y.length = 0
  · refine ⟨-1, fun k hk => ?_⟩
    obtain ⟨g1, g2⟩ := h3 k hk
    unfold impl_DeviationOf.f spec_DeviationOf.f
    rw [g1, g2]; simp only [Option.bind_some]
    rw [if_pos (by omega), if_pos (by omega)]
    exact ⟨rfl, rfl⟩
  · obtain ⟨v, hv⟩ := dev_l0 y (by omega) h1 h2 (y.length - 0) 0 0 rfl (Nat.zero_le _) (by omega) (by omega)
    refine ⟨v, fun k hk => ?_⟩
    obtain ⟨g1, g2⟩ := h3 k hk
    unfold impl_DeviationOf.f spec_DeviationOf.f
    rw [g1, g2]; simp only [Option.bind_some]
    rw [if_neg (by omega), if_neg (by omega)]
    exact hv k (by omega)

theorem FnExactDeviationOf : laws_FnExactDeviationOf.Pure := by
  intro x s _ _ _ _
  refine ⟨x.length + 21, ?_⟩
  unfold laws_FnExactDeviationOf.f
  by_cases h : x.length ≤ 1048576
  · obtain ⟨v, hv⟩ := dev_eq x (by omega) s
    obtain ⟨h1, h2⟩ := hv (x.length + 21) (by omega)
    rw [if_neg (by omega), to_eq h (by omega)]
    simp only [Option.bind_some]
    rw [h1, h2]
    simp only [Option.bind_some]
    rw [if_pos (by trivial), eqX_eq (by omega) (by omega)]
    rfl
  · rw [if_pos (by omega)]

end Go.Proofs.Ytlledohifanieaa.Pure
