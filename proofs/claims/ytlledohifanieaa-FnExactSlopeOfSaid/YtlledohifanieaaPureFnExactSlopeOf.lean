/- The program's SlopeOf returns what the reference's returns, for all phases, and leaves its argument as it was. For every input; no condition. -/
import Derived.Test.YtlledohifanieaaPAllx11
import Derived.Test.YtlledohifanieaaBase
namespace Go.Proofs.Ytlledohifanieaa.Pure
open Go.RowKit Go.Proofs.Ytlledohifanieaa.PAll Go.Proofs.YtlledohifanieaaW.PrintWords Go.Proofs.YtlledohifanieaaW.PrintLast Go.Proofs.YtlledohifanieaaW.PrintMore Go.Proofs.Ytlledohifanieaa.Base
set_option linter.unusedVariables false
set_option linter.unusedSimpArgs false

theorem wsucc {i : Nat} (h : i < 1152921504606846976) : wrap64 ((i : Int) + 1) = ((i + 1 : Nat) : Int) := by
  rw [w64 (by omega) (by omega)]; omega

theorem inRange_eq (a b c : Int) : spec_inRange.f a b c = some (decide (b ≤ a ∧ a ≤ c)) := by
  unfold spec_inRange.f
  by_cases h : b ≤ a
  · rw [if_pos h]; simp [h]
  · rw [if_neg h]; simp [h]

theorem rdI {l : List Int} {i : Nat} (h : i < l.length) : rd l (i : Int) = l[i] := by
  unfold rd
  rw [Int.toNat_natCast, List.getD_eq_getElem?_getD, List.getElem?_eq_getElem h]; rfl

/-- Valid phases. -/
def vph (l : List Int) : Bool := decide (l.length ≤ 16) && l.all phOk
theorem iVP_eq (l : List Int) : impl_phasesValid.f l = some (vph l) := rfl

theorem vph_iff (l : List Int) : vph l = true ↔ l.length ≤ 16 ∧ ∀ x ∈ l, -1000000 ≤ x ∧ x ≤ 1000000 := by
  unfold vph phOk
  rw [Bool.and_eq_true, decide_eq_true_eq, List.all_eq_true]
  constructor
  · intro ⟨h1, h2⟩; exact ⟨h1, fun x hx => of_decide_eq_true (h2 x hx)⟩
  · intro ⟨h1, h2⟩; exact ⟨h1, fun x hx => decide_eq_true (h2 x hx)⟩

theorem allIn_l0 (l : List Int) (hl : l.length ≤ 1152921504606846975) : ∀ (k i : Nat), i ≤ l.length → l.length - i < k →
    spec_allIn.l0 k l (-1000000) 1000000 (i : Int) = some ((l.drop i).all phOk) := by
  intro k
  induction k with
  | zero => intro i _ hk; omega
  | succ k ih =>
    intro i hi hk
    simp only [spec_allIn.l0]
    by_cases hlt : i < l.length
    · rw [if_pos (by omega), if_pos (by omega), rdI hlt, inRange_eq]
      simp only [Option.bind_some]
      rw [List.drop_eq_getElem_cons hlt, List.all_cons, wsucc (by omega)]
      have e : decide (-1000000 ≤ l[i] ∧ l[i] ≤ 1000000) = phOk l[i] := rfl
      rw [e]
      cases ho : phOk l[i] with
      | true => rw [if_pos (by trivial), ih (i + 1) (by omega) (by omega)]; rfl
      | false => rw [if_neg (by decide)]; rfl
    · have e : i = l.length := by omega
      rw [if_neg (by omega), e, List.drop_length]
      rfl

theorem sVP_eq {l : List Int} (hl : l.length ≤ 1152921504606846975) {k : Nat} (hk : l.length < k) : spec_validPhases.f k l = some (vph l) := by
  unfold spec_validPhases.f vph
  by_cases h : l.length ≤ 16
  · unfold spec_allIn.f
    have e := allIn_l0 l hl k 0 (Nat.zero_le _) (by omega)
    rw [List.drop_zero] at e
    rw [show ((0 : Nat) : Int) = 0 from rfl] at e
    rw [if_pos (by omega), e, decide_eq_true h]
    rfl
  · rw [if_neg (by omega), decide_eq_false h]; rfl

theorem to_l0 (x : List Int) (hx : x.length ≤ 1048576) : ∀ (k i : Nat) (acc : List Int), acc.length = x.length → i ≤ x.length → x.length - i < k →
    laws_toIntS.l0 k x acc (i : Int) = some (acc.take i ++ x.drop i) := by
  intro k
  induction k with
  | zero => intro i _ _ _ hk; omega
  | succ k ih =>
    intro i acc ha hi hk
    simp only [laws_toIntS.l0]
    by_cases hlt : i < x.length
    · rw [if_pos (by omega), if_pos (by omega), if_pos (by omega), rdI hlt, Int.toNat_natCast, wsucc (by omega), ih (i + 1) _ (by rw [List.length_set]; exact ha) (by omega) (by omega)]
      rw [List.drop_eq_getElem_cons hlt, List.take_succ_eq_append_getElem (by rw [List.length_set]; omega), List.getElem_set_self, List.take_set_of_le (Nat.le_refl i), List.append_assoc]
      rfl
    · have e : i = x.length := by omega
      rw [if_neg (by omega), e, List.drop_length, List.append_nil, ← ha, List.take_length]

theorem to_eq {x : List Int} (hx : x.length ≤ 1048576) {k : Nat} (hk : x.length < k) : laws_toIntS.f k x = some x := by
  unfold laws_toIntS.f
  rw [if_pos (by omega), if_pos (by omega)]
  have h := to_l0 x hx k 0 (List.replicate ((x.length : Int) : Int).toNat 0) (by rw [List.length_replicate, Int.toNat_natCast]) (Nat.zero_le _) (by omega)
  rw [List.take_zero, List.drop_zero, List.nil_append] at h
  exact h

theorem eqX_l0 (x : List Int) (hx : x.length ≤ 1048577) : ∀ (k i : Nat), i ≤ x.length → x.length - i < k → laws_eqIntS.l0 k x x (i : Int) = some true := by
  intro k
  induction k with
  | zero => intro i _ hk; omega
  | succ k ih =>
    intro i hi hk
    simp only [laws_eqIntS.l0]
    by_cases hlt : i < x.length
    · rw [if_pos (by omega), if_pos (by omega), if_pos (by omega), if_pos (by trivial), wsucc (by omega)]
      exact ih (i + 1) (by omega) (by omega)
    · rw [if_neg (by omega)]

theorem eqX_eq {x : List Int} (hx : x.length ≤ 1048577) {k : Nat} (hk : x.length < k) : laws_eqIntS.f k x x = some true := by
  unfold laws_eqIntS.f
  rw [if_pos rfl]
  exact eqX_l0 x hx k 0 (Nat.zero_le _) (by omega)

theorem slope_same {l : List Int} (hl : l.length ≤ 1048577) {k : Nat} (hk : l.length < k) : ∃ v, spec_SlopeOf.f k l = some v ∧ impl_SlopeOf.f l = some v := by
  unfold spec_SlopeOf.f impl_SlopeOf.f
  rw [sVP_eq (by omega) hk, iVP_eq]; simp only [Option.bind_some]
  by_cases h2 : (l.length : Int) < 2
  · rw [if_pos h2, if_pos h2]
    refine ⟨(0, false), ?_, rfl⟩
    split <;> rfl
  · rw [if_neg h2, if_neg h2]
    by_cases hv : vph l = true
    · obtain ⟨h16, hr⟩ := (vph_iff l).1 hv
      have r1 := rd_rng hr (by omega) (by omega) ((l.length : Int) - 1)
      have r2 := rd_rng hr (by omega) (by omega) 0
      rw [if_pos hv, if_pos hv, w64 (x := (l.length : Int) - 1) (by omega) (by omega)]
      generalize rd l ((l.length : Int) - 1) = a at r1 ⊢
      generalize rd l 0 = b at r2 ⊢
      unfold spec_floorDiv.f impl_floor.f
      have a1 : (0 : Int) ≤ (l.length : Int) - 1 := by omega
      have a2 : (l.length : Int) - 1 < (l.length : Int) := by omega
      have a3 : (0 : Int) < (l.length : Int) := by omega
      have a4 : ¬ (l.length : Int) - 1 = 0 := by omega
      rw [w64 (x := a - b) (by omega) (by omega)]
      simp only [if_pos a1, if_pos a2, if_pos a3, if_neg a4]
      rw [floor_eq (by omega) (by omega) (by omega)]
      exact ⟨_, rfl, rfl⟩
    · rw [if_neg hv, if_neg hv]
      exact ⟨_, rfl, rfl⟩

theorem FnExactSlopeOf : laws_FnExactSlopeOf.Pure := by
  intro x _ _ _
  refine ⟨x.length + 1 + 1, ?_⟩
  unfold laws_FnExactSlopeOf.f
  by_cases h : x.length ≤ 1048576
  · obtain ⟨v, h1, h2⟩ := slope_same (l := x) (by omega) (k := x.length + 1 + 1) (by omega)
    rw [if_neg (by omega), to_eq h (by omega)]
    simp only [Option.bind_some]
    rw [h1, h2]
    simp only [Option.bind_some]
    rw [if_pos (by trivial), show (v.2 != v.2) = false by simp]
    simp only [laws_FnExactSlopeOf.j0]
    rw [if_neg (by decide), to_eq h (by omega)]
    simp only [Option.bind_some]
    rw [eqX_eq (by omega) (by omega)]
    rfl
  · rw [if_pos (by omega)]

end Go.Proofs.Ytlledohifanieaa.Pure
