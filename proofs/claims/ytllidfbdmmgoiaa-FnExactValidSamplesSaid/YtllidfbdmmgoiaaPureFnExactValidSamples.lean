/- The program's ValidSamples returns what the reference's returns, for all samples, and leaves its argument as it was. For every input; no condition. -/
import Derived.Test.YtllidfbdmmgoiaaPAllx10
import Derived.Test.YtllidfbdmmgoiaaBase
namespace Go.Proofs.Ytllidfbdmmgoiaa.Pure
open Go.RowKit Go.Proofs.Ytllidfbdmmgoiaa.PAll Go.Proofs.YtllidfbdmmgoiaaW.PrintWords Go.Proofs.YtllidfbdmmgoiaaW.PrintLast Go.Proofs.YtllidfbdmmgoiaaW.PrintMore Go.Proofs.Ytllidfbdmmgoiaa.Base
set_option linter.unusedVariables false
set_option linter.unusedSimpArgs false

abbrev Sm := S33

theorem wsucc {i : Nat} (h : i < 1152921504606846976) : wrap64 ((i : Int) + 1) = ((i + 1 : Nat) : Int) := by
  rw [w64 (by omega) (by omega)]; omega

theorem rdM {l : List Sm} {i : Nat} (h : i < l.length) : rd_T33 l (i : Int) = l[i] := by
  unfold rd_T33
  rw [Int.toNat_natCast, List.getD_eq_getElem?_getD, List.getElem?_eq_getElem h]; rfl

/-- Valid samples. -/
def vls (l : List Sm) : Bool := smpsOk (-1) l && decide (1 ≤ l.length ∧ l.length ≤ 8)
theorem iV_eq (l : List Sm) : impl_ValidSamples.f l = some (vls l) := rfl
theorem sV_eq (l : List Sm) : spec_validSamples.f l = some (vls l) := rfl

theorem vls_iff (l : List Sm) : vls l = true ↔ smpsOk (-1) l = true ∧ 1 ≤ l.length ∧ l.length ≤ 8 := by
  unfold vls; rw [Bool.and_eq_true, decide_eq_true_eq]

theorem smps_cons (p : Int) (s : Sm) (l : List Sm) : smpsOk p (s :: l) = true ↔ ((-1000000 ≤ s.f0 ∧ s.f0 ≤ 1000000) ∧ (0 ≤ s.f1 ∧ s.f1 ≤ 1000000) ∧ (0 ≤ s.f2 ∧ s.f2 ≤ 3786479999) ∧ p < s.f2) ∧ smpsOk s.f2 l = true := by
  rw [smpsOk.eq_2]
  unfold smpOk
  simp only [Bool.and_eq_true, decide_eq_true_eq]

theorem smps_rng : ∀ (l : List Sm) (p : Int), smpsOk p l = true → ∀ s ∈ l, (-1000000 ≤ s.f0 ∧ s.f0 ≤ 1000000) ∧ (0 ≤ s.f1 ∧ s.f1 ≤ 1000000) ∧ (0 ≤ s.f2 ∧ s.f2 ≤ 3786479999) ∧ p < s.f2
  | [], _, _, _, hs => by cases hs
  | t :: l, p, h, s, hs => by
    obtain ⟨h1, h2⟩ := (smps_cons p t l).1 h
    cases hs with
    | head => exact h1
    | tail _ hs =>
      obtain ⟨a, b, c, d⟩ := smps_rng l t.f2 h2 s hs
      exact ⟨a, b, c, by omega⟩

abbrev LSm := S40
def cv (s : LSm) : Sm := ⟨s.f0, s.f1, s.f2⟩

theorem rdL {l : List LSm} {i : Nat} (h : i < l.length) : rd_T40 l (i : Int) = l[i] := by
  unfold rd_T40
  rw [Int.toNat_natCast, List.getD_eq_getElem?_getD, List.getElem?_eq_getElem h]; rfl

theorem to_l0 (x : List LSm) (hx : x.length ≤ 1048576) : ∀ (k i : Nat) (acc : List Sm), acc.length = x.length → i ≤ x.length → x.length - i < k →
    laws_toSampleS.l0 k x acc (i : Int) = some (acc.take i ++ (x.drop i).map cv) := by
  intro k
  induction k with
  | zero => intro i _ _ _ hk; omega
  | succ k ih =>
    intro i acc ha hi hk
    simp only [laws_toSampleS.l0]
    by_cases hlt : i < x.length
    · rw [if_pos (by omega), if_pos (by omega), rdL hlt]
      unfold laws_toSample.f
      simp only [Option.bind_some]
      rw [if_pos (by omega), Int.toNat_natCast, wsucc (by omega), ih (i + 1) _ (by rw [List.length_set]; exact ha) (by omega) (by omega)]
      rw [List.drop_eq_getElem_cons hlt, List.map_cons, List.take_succ_eq_append_getElem (by rw [List.length_set]; omega), List.getElem_set_self, List.take_set_of_le (Nat.le_refl i), List.append_assoc]
      rfl
    · have e : i = x.length := by omega
      rw [if_neg (by omega), e, List.drop_length, List.map_nil, List.append_nil, ← ha, List.take_length]

theorem to_eq {x : List LSm} (hx : x.length ≤ 1048576) {k : Nat} (hk : x.length < k) : laws_toSampleS.f k x = some (x.map cv) := by
  unfold laws_toSampleS.f
  rw [if_pos (by omega), if_pos (by omega)]
  have h := to_l0 x hx k 0 (List.replicate ((x.length : Int) : Int).toNat z33) (by rw [List.length_replicate, Int.toNat_natCast]) (Nat.zero_le _) (by omega)
  rw [List.take_zero, List.drop_zero, List.nil_append] at h
  exact h

theorem eqM (a b c : Int) : laws_eqSample.f a b c a b c = some true := by
  unfold laws_eqSample.f
  rw [if_pos rfl, if_pos rfl, if_pos rfl]

theorem eqS_l0 (x : List Sm) (hx : x.length ≤ 1048577) : ∀ (k i : Nat), i ≤ x.length → x.length - i < k → laws_eqSampleS.l0 k x x (i : Int) = some true := by
  intro k
  induction k with
  | zero => intro i _ hk; omega
  | succ k ih =>
    intro i hi hk
    simp only [laws_eqSampleS.l0]
    by_cases hlt : i < x.length
    · rw [if_pos (by omega), if_pos (by omega), if_pos (by omega), eqM]
      simp only [Option.bind_some]
      rw [if_pos (by trivial), wsucc (by omega)]
      exact ih (i + 1) (by omega) (by omega)
    · rw [if_neg (by omega)]

theorem eqS_eq {x : List Sm} (hx : x.length ≤ 1048577) {k : Nat} (hk : x.length < k) : laws_eqSampleS.f k x x = some true := by
  unfold laws_eqSampleS.f
  rw [if_pos rfl]
  exact eqS_l0 x hx k 0 (Nat.zero_le _) (by omega)

theorem sz_eq (x : List LSm) (hm : x.length ≤ maxLen) : laws_szSampleS.f x 1048576 = some (if x.length ≤ 1048576 then 1048576 - (x.length : Int) else -1) := by
  unfold laws_szSampleS.f
  unfold maxLen at hm
  rw [w64 (by omega) (by omega)]
  by_cases h : x.length ≤ 1048576
  · rw [if_neg (by omega), if_pos h]
  · rw [if_pos (by omega), if_neg h]

theorem FnExactValidSamples : ∀ (l0 : List S40), l0.length ≤ maxLen → ∃ k, laws_FnExactValidSamples.f k l0 = some true := by
  intro x hm
  refine ⟨x.length + 1, ?_⟩
  unfold laws_FnExactValidSamples.f
  rw [sz_eq x hm]; simp only [Option.bind_some]
  by_cases h : x.length ≤ 1048576
  · have hl : (x.map cv).length = x.length := List.length_map _
    rw [if_pos h, if_neg (by omega), to_eq h (by omega)]
    simp only [Option.bind_some]
    unfold spec_ValidSamples.f
    rw [sV_eq, iV_eq]
    simp only [Option.bind_some]
    rw [if_neg (by simp), eqS_eq (by omega) (by omega)]
    simp only [Option.bind_some]
    rfl
  · rw [if_neg h, if_pos (by omega)]

end Go.Proofs.Ytllidfbdmmgoiaa.Pure
