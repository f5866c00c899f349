/- AddSample to 8 samples leaves out the first one, and to fewer none; the program's and the reference's AddSample tell the same. For every input; no condition. -/
import Derived.Test.YtllidfbdmmgoiaaPAllx20
import Derived.Test.YtllidfbdmmgoiaaBase
namespace Go.Proofs.Ytllidfbdmmgoiaa.Pure
open Go.RowKit Go.Proofs.Ytllidfbdmmgoiaa.PAll Go.Proofs.YtllidfbdmmgoiaaW.PrintWords Go.Proofs.YtllidfbdmmgoiaaW.PrintLast Go.Proofs.YtllidfbdmmgoiaaW.PrintMore Go.Proofs.Ytllidfbdmmgoiaa.Base
set_option linter.unusedVariables false
set_option linter.unusedSimpArgs false

abbrev Sm := S33

theorem wsucc {i : Nat} (h : i < 1152921504606846976) : wrap64 ((i : Int) + 1) = ((i + 1 : Nat) : Int) := by
  rw [w64 (by omega) (by omega)]; omega

theorem rdM {l : List Sm} {i : Nat} (h : i < l.length) : rd_T33 l (i : Int) = l[i] := by
  unfold rd_T33
  rw [Int.toNat_natCast, List.getD_eq_getElem?_getD, List.getElem?_eq_getElem h]; rfl

/-- Valid samples. -/
def vls (l : List Sm) : Bool := smpsOk (-1) l && decide (1 ≤ l.length ∧ l.length ≤ 8)
theorem iV_eq (l : List Sm) : impl_ValidSamples.f l = some (vls l) := rfl
theorem sV_eq (l : List Sm) : spec_validSamples.f l = some (vls l) := rfl

theorem vls_iff (l : List Sm) : vls l = true ↔ smpsOk (-1) l = true ∧ 1 ≤ l.length ∧ l.length ≤ 8 := by
  unfold vls; rw [Bool.and_eq_true, decide_eq_true_eq]

theorem smps_cons (p : Int) (s : Sm) (l : List Sm) : smpsOk p (s :: l) = true ↔ ((-1000000 ≤ s.f0 ∧ s.f0 ≤ 1000000) ∧ (0 ≤ s.f1 ∧ s.f1 ≤ 1000000) ∧ (0 ≤ s.f2 ∧ s.f2 ≤ 3786479999) ∧ p < s.f2) ∧ smpsOk s.f2 l = true := by
  rw [smpsOk.eq_2]
  unfold smpOk
  simp only [Bool.and_eq_true, decide_eq_true_eq]

theorem smps_rng : ∀ (l : List Sm) (p : Int), smpsOk p l = true → ∀ s ∈ l, (-1000000 ≤ s.f0 ∧ s.f0 ≤ 1000000) ∧ (0 ≤ s.f1 ∧ s.f1 ≤ 1000000) ∧ (0 ≤ s.f2 ∧ s.f2 ≤ 3786479999) ∧ p < s.f2
  | [], _, _, _, hs => by cases hs
  | t :: l, p, h, s, hs => by
    obtain ⟨h1, h2⟩ := (smps_cons p t l).1 h
    cases hs with
    | head => exact h1
    | tail _ hs =>
      obtain ⟨a, b, c, d⟩ := smps_rng l t.f2 h2 s hs
      exact ⟨a, b, c, by omega⟩

/-- Samples and another one behind them, without the first one if there would be more than 8. -/
def adS (l : List Sm) (s : Sm) : List Sm := if 8 < l.length + 1 then (l ++ [s]).drop 1 else l ++ [s]
/-- Does AddSample answer samples? -/
def adOk (l : List Sm) (s : Sm) : Bool := !(decide (0 < l.length) && !vls l) && vls (adS l s)
/-- The samples that it answers. -/
def adR (l : List Sm) (s : Sm) : List Sm := if adOk l s = true then adS l s else []

theorem clone_eq {l : List Sm} (h : l.length ≤ 1048577) : impl_Sample_42.f l = some l := by
  unfold impl_Sample_42.f; rw [if_pos (by omega)]

theorem del_eq {l : List Sm} (h : 0 < l.length) : impl_Sample_43.f l 0 1 = some (l.drop 1) := by
  unfold impl_Sample_43.f; rw [if_pos ⟨⟨h, rfl⟩, rfl⟩]

theorem snoc_len (l : List Sm) (s : Sm) : (l ++ [s]).length = l.length + 1 := by rw [List.length_append, List.length_singleton]

theorem iAdd_j0 {l : List Sm} (hl : l.length ≤ 1048577) (k : Nat) (v : Bool) (a b c : Int) :
    impl_AddSample.j0 (k + 1) l v a b c = some (if v = true then (([] : List Sm), false) else if vls (adS l ⟨a, b, c⟩) = true then (adS l ⟨a, b, c⟩, true) else ([], false)) := by
  rw [impl_AddSample.j0]
  cases v with
  | true => rw [if_pos rfl, if_pos rfl]
  | false =>
    have hn := snoc_len l ⟨a, b, c⟩
    rw [if_neg (by decide), if_neg (by decide), clone_eq hl]
    simp only [Option.bind_some]
    rw [if_pos (by rw [List.length_singleton]; omega)]
    unfold adS
    by_cases h : 8 < l.length + 1
    · rw [if_pos h, if_pos (by omega), del_eq (by omega)]
      simp only [Option.bind_some]
      rw [iV_eq]; simp only [Option.bind_some]
      split <;> rfl
    · rw [if_neg h, if_neg (by omega), iV_eq]
      simp only [Option.bind_some]
      split <;> rfl

theorem add_fin (l : List Sm) (s : Sm) (v : Bool) (hv : v = (decide (0 < l.length) && !vls l)) :
    (if v = true then (([] : List Sm), false) else if vls (adS l s) = true then (adS l s, true) else ([], false)) = (adR l s, adOk l s) := by
  unfold adR adOk
  rw [← hv]
  cases v with
  | true => rfl
  | false =>
    rw [if_neg (by decide)]
    simp only [Bool.not_false, Bool.true_and]
    by_cases h : vls (adS l s) = true
    · rw [if_pos h, if_pos h, h]
    · rw [if_neg h, if_neg h, Bool.eq_false_iff.mpr h]

theorem iAdd_eq {l : List Sm} (hl : l.length ≤ 1048577) {k : Nat} (hk : 0 < k) (a b c : Int) : impl_AddSample.f k l a b c = some (adR l ⟨a, b, c⟩, adOk l ⟨a, b, c⟩) := by
  obtain ⟨k, rfl⟩ : ∃ m, k = m + 1 := ⟨k - 1, by omega⟩
  unfold impl_AddSample.f
  by_cases h : 0 < l.length
  · rw [if_pos (by omega), iV_eq]
    simp only [Option.bind_some]
    rw [iAdd_j0 hl, add_fin l _ (!vls l) (by rw [decide_eq_true h]; rfl)]
  · rw [if_neg (by omega), iAdd_j0 hl, add_fin l _ false (by rw [decide_eq_false h]; rfl)]

theorem adS_len (l : List Sm) (s : Sm) : (adS l s).length ≤ l.length + 1 := by
  unfold adS
  have hn := snoc_len l s
  by_cases h : 8 < l.length + 1
  · rw [if_pos h, List.length_drop]; omega
  · rw [if_neg h]; omega

theorem adR_len (l : List Sm) (s : Sm) : (adR l s).length ≤ l.length + 1 := by
  unfold adR
  by_cases h : adOk l s = true
  · rw [if_pos h]; exact adS_len l s
  · rw [if_neg h]; exact Nat.zero_le _

theorem adOk_iff (l : List Sm) (s : Sm) : adOk l s = true ↔ (0 < l.length → vls l = true) ∧ vls (adS l s) = true := by
  unfold adOk
  rw [Bool.and_eq_true]
  by_cases h : 0 < l.length
  · rw [decide_eq_true h]; simp [h]
  · rw [decide_eq_false h]; simp [h]
theorem sAdd_j0 {l : List Sm} (hl : l.length ≤ 1048577) (k : Nat) (v : Bool) (a b c : Int) :
    spec_AddSample.j0 (k + 1) l v a b c = some (if v = true then (([] : List Sm), false) else if vls (adS l ⟨a, b, c⟩) = true then (adS l ⟨a, b, c⟩, true) else ([], false)) := by
  rw [spec_AddSample.j0]
  cases v with
  | true => rw [if_pos rfl, if_pos rfl]
  | false =>
    have hn := snoc_len l ⟨a, b, c⟩
    rw [if_neg (by decide), if_neg (by decide)]
    simp only [Option.bind_some, List.nil_append]
    rw [if_pos (by rw [List.length_nil]; omega), if_pos (by rw [List.length_singleton]; omega)]
    unfold adS
    by_cases h : 8 < l.length + 1
    · rw [if_pos h, if_pos (by omega), if_pos (by omega), show (1 : Int).toNat = 1 from rfl, sV_eq]
      simp only [Option.bind_some]
      split <;> rfl
    · rw [if_neg h, if_neg (by omega), sV_eq]
      simp only [Option.bind_some]
      split <;> rfl

theorem sAdd_eq {l : List Sm} (hl : l.length ≤ 1048577) {k : Nat} (hk : 0 < k) (a b c : Int) : spec_AddSample.f k l a b c = some (adR l ⟨a, b, c⟩, adOk l ⟨a, b, c⟩) := by
  obtain ⟨k, rfl⟩ : ∃ m, k = m + 1 := ⟨k - 1, by omega⟩
  unfold spec_AddSample.f
  by_cases h : 0 < l.length
  · rw [if_pos (by omega), sV_eq]
    simp only [Option.bind_some]
    rw [sAdd_j0 hl, add_fin l _ (!vls l) (by rw [decide_eq_true h]; rfl)]
  · rw [if_neg (by omega), sAdd_j0 hl, add_fin l _ false (by rw [decide_eq_false h]; rfl)]

theorem eqE_l0 (x : List Sm) (hx : x.length ≤ 1048577) : ∀ (k i : Nat), i ≤ x.length → x.length - i < k → laws_equalSamples.l0 k x x (i : Int) = some true := by
  intro k
  induction k with
  | zero => intro i _ hk; omega
  | succ k ih =>
    intro i hi hk
    simp only [laws_equalSamples.l0]
    by_cases hlt : i < x.length
    · rw [if_pos (by omega), if_pos (by omega), if_pos (by omega), if_neg (by simp), wsucc (by omega)]
      exact ih (i + 1) (by omega) (by omega)
    · rw [if_neg (by omega)]

theorem eqE_eq {x : List Sm} (hx : x.length ≤ 1048577) {k : Nat} (hk : x.length < k) : laws_equalSamples.f k x x = some true := by
  unfold laws_equalSamples.f
  rw [if_pos rfl]
  exact eqE_l0 x hx k 0 (Nat.zero_le _) (by omega)
/-- What a reader holds: at most 2000 bytes. -/
def Bts (s : List Int) : Prop := (∀ x ∈ s, 0 ≤ x ∧ x ≤ 255) ∧ s.length ≤ 2000

theorem pick_ok {s : List Int} (hs : Bts s) (p n : Int) (k : Nat) (hp : 0 ≤ p) (hp2 : p ≤ 1000000) :
    ∃ v, spec_reader_pick.f (k + 1) s p n = some (v, p + 1) ∧ 0 ≤ v ∧ (1 ≤ n → v < n) := by
  obtain ⟨hs1, hs2⟩ := hs
  unfold spec_reader_pick.f
  have e1 : wrap64 (p + 1) = p + 1 := w64 (by omega) (by omega)
  rw [e1]
  by_cases hn : n < 1
  · rw [if_pos hn]
    exact ⟨0, by simp only [spec_reader_pick.j0, if_true], Int.le_refl _, fun h => by omega⟩
  · rw [if_neg hn]
    by_cases h0 : s.length = 0
    · have hb : ((s.length : Int) == 0) = true := by rw [h0]; rfl
      rw [hb]
      exact ⟨0, by simp only [spec_reader_pick.j0, if_true], Int.le_refl _, fun h => by omega⟩
    · have hb : ((s.length : Int) == 0) = false := by simp; intro h; exact h0 (by rw [h]; rfl)
      rw [hb]
      have e2 : wrap64 (p + 1 - 1) = p := by rw [w64 (by omega) (by omega)]; omega
      have hL : (0 : Int) < s.length := by omega
      simp only [spec_reader_pick.j0]
      rw [if_neg (by simp), e2]
      by_cases h1 : p < (s.length : Int)
      · rw [if_pos h1, if_pos hp, if_neg (by omega)]
        have hr := rd_rng hs1 (by omega) (by omega) p
        rw [w64 (x := rd s p) (by omega) (by omega), tmod_nn hr.1]
        exact ⟨_, rfl, Int.emod_nonneg _ (by omega), fun _ => Int.emod_lt_of_pos _ (by omega)⟩
      · rw [if_neg h1, if_neg (by omega)]
        have e3 : wrap64 (wrap64 (p * 7) + 3) = p * 7 + 3 := by rw [w64 (x := p * 7) (by omega) (by omega), w64 (by omega) (by omega)]
        rw [e3, tmod_nn hp, tmod_nn (a := p * 7 + 3) (by omega), tdiv_nn hp]
        have q0 := Int.emod_nonneg p (b := (s.length : Int)) (by omega)
        have q1 := Int.emod_lt_of_pos p hL
        have q2 := Int.emod_nonneg (p * 7 + 3) (b := (s.length : Int)) (by omega)
        have q3 := Int.emod_lt_of_pos (p * 7 + 3) hL
        have q4 := ediv_rng hp hL
        rw [if_pos q0, if_pos q1, if_pos q2, if_pos q3, if_neg (by omega)]
        have r1 := rd_rng hs1 (by omega) (by omega) (p % (s.length : Int))
        have r2 := rd_rng hs1 (by omega) (by omega) ((p * 7 + 3) % (s.length : Int))
        generalize rd s (p % (s.length : Int)) = u1 at r1 ⊢
        generalize rd s ((p * 7 + 3) % (s.length : Int)) = u2 at r2 ⊢
        generalize p / (s.length : Int) = u3 at q4 ⊢
        have ey : wrap64 (wrap64 (wrap64 (wrap64 (wrap64 u1 * 131) + wrap64 (wrap64 u2 * 1117)) + wrap64 (p * 29)) + wrap64 (wrap64 u3 * 53)) = u1 * 131 + u2 * 1117 + p * 29 + u3 * 53 := by
          rw [w64 (x := u1) (by omega) (by omega), w64 (x := u2) (by omega) (by omega), w64 (x := u3) (by omega) (by omega), w64 (x := u1 * 131) (by omega) (by omega), w64 (x := u2 * 1117) (by omega) (by omega), w64 (x := p * 29) (by omega) (by omega), w64 (x := u3 * 53) (by omega) (by omega), w64 (x := u1 * 131 + u2 * 1117) (by omega) (by omega), w64 (x := u1 * 131 + u2 * 1117 + p * 29) (by omega) (by omega), w64 (by omega) (by omega)]
        rw [ey]
        have hy0 : 0 ≤ u1 * 131 + u2 * 1117 + p * 29 + u3 * 53 := by omega
        have hy1 : u1 * 131 + u2 * 1117 + p * 29 + u3 * 53 < 4611686018427387904 := by omega
        generalize u1 * 131 + u2 * 1117 + p * 29 + u3 * 53 = y at hy0 hy1 ⊢
        rw [tdiv_nn hy0]
        have hz := ediv_rng hy0 (b := 64) (by omega)
        rw [w64 (x := y / 64) (by omega) (by omega)]
        have hx := xor_nn hy0 hy1 hz.1 (by omega)
        rw [tmod_nn hx]
        exact ⟨_, rfl, Int.emod_nonneg _ (by omega), fun _ => Int.emod_lt_of_pos _ (by omega)⟩

theorem one_ok {s : List Int} (hs : Bts s) (p : Int) (l : List Int) (k : Nat) (hl : 0 < l.length) (hp : 0 ≤ p) (hp2 : p ≤ 1000000) :
    ∃ v, spec_reader_one.f (k + 1) s p l = some (v, p + 1) ∧ v ∈ l := by
  obtain ⟨v, h, h0, h1⟩ := pick_ok hs p (l.length : Int) k hp hp2
  have h2 := h1 (by omega)
  refine ⟨rd l v, ?_, ?_⟩
  · unfold spec_reader_one.f
    rw [h]
    simp only [Option.bind_some]
    rw [if_pos h0, if_pos h2]
  · unfold rd
    rw [List.getD_eq_getElem?_getD, List.getElem?_eq_getElem (by omega)]
    exact List.getElem_mem _

theorem new_ok {l : List Int} (h : ∀ x ∈ l, 0 ≤ x ∧ x ≤ 255) : ∃ s, spec_newReader.f l = some (s, 0) ∧ Bts s := by
  unfold spec_newReader.f
  by_cases h1 : (l.length : Int) > 2000
  · rw [if_pos h1, if_pos (by omega)]
    exact ⟨_, rfl, fun x hx => h x (List.mem_of_mem_take hx), by rw [List.length_take]; omega⟩
  · rw [if_neg h1]
    exact ⟨_, rfl, h, by omega⟩

theorem pick_okk {s : List Int} (hs : Bts s) (p n : Int) (k : Nat) (hk : 1 ≤ k) (hp : 0 ≤ p) (hp2 : p ≤ 1000000) :
    ∃ v, spec_reader_pick.f k s p n = some (v, p + 1) ∧ 0 ≤ v ∧ (1 ≤ n → v < n) := by
  obtain ⟨m, rfl⟩ : ∃ m, k = m + 1 := ⟨k - 1, by omega⟩
  exact pick_ok hs p n m hp hp2

theorem one_okk {s : List Int} (hs : Bts s) (p : Int) (l : List Int) (k : Nat) (hk : 1 ≤ k) (hl : 0 < l.length) (hp : 0 ≤ p) (hp2 : p ≤ 1000000) :
    ∃ v, spec_reader_one.f k s p l = some (v, p + 1) ∧ v ∈ l := by
  obtain ⟨m, rfl⟩ : ∃ m, k = m + 1 := ⟨k - 1, by omega⟩
  exact one_ok hs p l m hl hp hp2

theorem someOff_ok {s : List Int} (hs : Bts s) (p : Int) (k : Nat) (hk : 1 ≤ k) (hp : 0 ≤ p) (hp2 : p ≤ 900000) : ∃ v, spec_someOffset.f k s p = some (v, p + 2) := by
  unfold spec_someOffset.f
  obtain ⟨v1, h1, _⟩ := pick_okk hs p 250 k hk hp (by omega)
  rw [h1]; simp only [Option.bind_some]
  obtain ⟨v2, h2, _⟩ := one_okk hs (p + 1) [0, 1, (-1), 100, (-250), 5000, 128000, 128001, (-128000), 1000000, (-1000000), wrap64 (40 * (wrap64 (v1 - 125)))] k hk (by simp) (by omega) (by omega)
  rw [h2]; simp only [Option.bind_some]
  exact ⟨v2, by rw [Int.add_assoc]; rfl⟩

theorem someSmp_l0 {s : List Int} (hs : Bts s) : ∀ (n k : Nat) (a : Int) (l : List Sm) (p : Int), n + 2 ≤ k → l.length + n ≤ 8 → 0 ≤ p → p + 4 * n ≤ 800000 →
    ∃ l', spec_someSamples.l0 k a l (n : Int) s p = some (l', p + 4 * n) ∧ l'.length = l.length + n := by
  intro n
  induction n with
  | zero =>
    intro k a l p hk hl hp hp2
    obtain ⟨k, rfl⟩ : ∃ m, k = m + 1 := ⟨k - 1, by omega⟩
    simp only [spec_someSamples.l0]
    rw [if_neg (by omega)]
    exact ⟨l, by rw [show p + 4 * ((0 : Nat) : Int) = p by omega], rfl⟩
  | succ n ih =>
    intro k a l p hk hl hp hp2
    obtain ⟨k, rfl⟩ : ∃ m, k = m + 1 := ⟨k - 1, by omega⟩
    simp only [spec_someSamples.l0]
    rw [if_pos (by omega)]
    obtain ⟨v1, h1⟩ := someOff_ok hs p k (by omega) hp (by omega)
    rw [h1]; simp only [Option.bind_some]
    obtain ⟨v2, h2, _⟩ := one_okk hs (p + 2) [10, 100, 50, 0, 1000000, 10] k (by omega) (by simp) (by omega) (by omega)
    rw [h2]; simp only [Option.bind_some]
    rw [if_pos (by omega)]
    obtain ⟨v3, h3, _⟩ := pick_okk hs (p + 2 + 1) 100 k (by omega) (by omega) (by omega)
    rw [h3]; simp only [Option.bind_some]
    have en : wrap64 (((n + 1 : Nat) : Int) - 1) = (n : Int) := by rw [w64 (by omega) (by omega)]; omega
    rw [en]
    obtain ⟨l', h4, h5⟩ := ih k (wrap64 ((wrap64 (a + 1)) + v3)) (l ++ [(⟨v1, v2, a⟩ : Sm)]) (p + 2 + 1 + 1) (by omega) (by rw [List.length_append, List.length_singleton]; omega) (by omega) (by omega)
    refine ⟨l', ?_, by rw [h5, List.length_append, List.length_singleton]; omega⟩
    rw [h4, show p + 2 + 1 + 1 + 4 * (n : Int) = p + 4 * ((n + 1 : Nat) : Int) by omega]

theorem someSmp_ok {s : List Int} (hs : Bts s) (p a : Int) (k : Nat) (hk : 12 ≤ k) (hp : 0 ≤ p) (hp2 : p ≤ 100000) :
    ∃ l p', spec_someSamples.f k s p a = some (l, p') ∧ 1 ≤ l.length ∧ l.length ≤ 8 ∧ p ≤ p' ∧ p' ≤ p + 40 := by
  unfold spec_someSamples.f
  obtain ⟨v2, h2, hv⟩ := one_okk hs p [3, 4, 5, 8, 2, 1] k (by omega) (by simp) (by omega) (by omega)
  rw [h2]; simp only [Option.bind_some]
  have hv' : 1 ≤ v2 ∧ v2 ≤ 8 := by simp at hv; omega
  obtain ⟨n, rfl⟩ := Int.eq_ofNat_of_zero_le (show 0 ≤ v2 by omega)
  obtain ⟨l', h5, h6⟩ := someSmp_l0 hs n k a [] (p + 1) (by omega) (by simp; omega) (by omega) (by omega)
  rw [h5]
  simp at h6
  exact ⟨l', _, rfl, by omega, by omega, by omega, by omega⟩

theorem anySmp_ok {s : List Int} (hs : Bts s) (p : Int) (k : Nat) (hk : 12 ≤ k) (hp : 0 ≤ p) (hp2 : p ≤ 90000) :
    ∃ l p', spec_anySamples.f k s p = some (l, p') ∧ 1 ≤ l.length ∧ l.length ≤ 9 ∧ p ≤ p' ∧ p' ≤ p + 50 := by
  unfold spec_anySamples.f
  obtain ⟨v1, h1, _⟩ := pick_okk hs p 100 k (by omega) hp (by omega)
  rw [h1]; simp only [Option.bind_some]
  obtain ⟨l, q, h2, ha, hb, hc, hd⟩ := someSmp_ok hs (p + 1) (wrap64 (1000 * v1)) k hk (by omega) (by omega)
  rw [h2]; simp only [Option.bind_some]
  obtain ⟨v3, h3, _⟩ := pick_okk hs q 16 k (by omega) (by omega) (by omega)
  rw [h3]; simp only [Option.bind_some]
  by_cases e0 : v3 = 0
  · rw [if_pos e0]
    obtain ⟨v4, h4, g0, g1⟩ := pick_okk hs (q + 1) (l.length : Int) k (by omega) (by omega) (by omega)
    rw [h4]; simp only [Option.bind_some]
    obtain ⟨v5, h5, _⟩ := one_okk hs (q + 1 + 1) [1000001, 0] k (by omega) (by simp) (by omega) (by omega)
    rw [h5]; simp only [Option.bind_some]
    obtain ⟨v6, h6, _⟩ := one_okk hs (q + 1 + 1 + 1) [(-1), 0, 1000001] k (by omega) (by simp) (by omega) (by omega)
    rw [h6]; simp only [Option.bind_some]
    obtain ⟨v7, h7, _⟩ := one_okk hs (q + 1 + 1 + 1 + 1) [(-1), 5] k (by omega) (by simp) (by omega) (by omega)
    rw [h7]; simp only [Option.bind_some]
    rw [if_pos g0, if_pos (g1 (by omega))]
    exact ⟨_, _, rfl, by rw [List.length_set]; omega, by rw [List.length_set]; omega, by omega, by omega⟩
  · rw [if_neg e0]
    by_cases e1 : v3 = 1
    · rw [if_pos e1, if_pos (by omega), if_pos (by omega)]
      exact ⟨_, _, rfl, by rw [List.length_append, List.length_singleton]; omega, by rw [List.length_append, List.length_singleton]; omega, by omega, by omega⟩
    · rw [if_neg e1]
      exact ⟨_, _, rfl, ha, by omega, by omega, by omega⟩

theorem anyOff_ok {s : List Int} (hs : Bts s) (p : Int) (k : Nat) (hk : 1 ≤ k) (hp : 0 ≤ p) (hp2 : p ≤ 800000) :
    ∃ v p', spec_anyOffset.f k s p = some (v, p') ∧ p ≤ p' ∧ p' ≤ p + 3 := by
  obtain ⟨v, h, _⟩ := pick_okk hs p 14 k hk hp (by omega)
  unfold spec_anyOffset.f
  rw [h]; simp only [Option.bind_some]
  by_cases h0 : v = 0
  · rw [if_pos h0]
    obtain ⟨v2, h2, _⟩ := one_okk hs (p + 1) [1000001, (-1000001)] k hk (by simp) (by omega) (by omega)
    rw [h2]; simp only [Option.bind_some]
    exact ⟨_, _, rfl, by omega, by omega⟩
  · rw [if_neg h0]
    obtain ⟨v2, h2⟩ := someOff_ok hs (p + 1) k hk (by omega) (by omega)
    rw [h2]; simp only [Option.bind_some]
    exact ⟨_, _, rfl, by omega, by omega⟩

theorem addTail_ok {s : List Int} (hs : Bts s) (x : List Sm) (hx : x.length ≤ 9) (p : Int) (k : Nat) (hk : 1 ≤ k) (hp : 0 ≤ p) (hp2 : p ≤ 700000) :
    ∃ a b c, spec_DrawAddSample.j0 (k + 1) x s p = some (x, a, b, c) := by
  obtain ⟨v, p1, h1, l1, u1⟩ := anyOff_ok hs p k hk hp (by omega)
  obtain ⟨v2, h2, _⟩ := one_okk hs p1 [5, 0, 200, (-1)] k hk (by simp) (by omega) (by omega)
  obtain ⟨v3, h3, _⟩ := one_okk hs (p1 + 1) [1, 10, 0, 64] k hk (by simp) (by omega) (by omega)
  rw [spec_DrawAddSample.j0]
  by_cases h : 0 < x.length
  · have e : wrap64 ((x.length : Int) - 1) = (x.length : Int) - 1 := w64 (by omega) (by omega)
    rw [if_pos (by omega), e, if_pos (by omega), if_pos (by omega), h1]
    simp only [Option.bind_some]
    rw [h2]; simp only [Option.bind_some]
    rw [h3]; simp only [Option.bind_some]
    exact ⟨_, _, _, rfl⟩
  · rw [if_neg (by omega), h1]
    simp only [Option.bind_some]
    rw [h2]; simp only [Option.bind_some]
    rw [h3]; simp only [Option.bind_some]
    exact ⟨_, _, _, rfl⟩

theorem drawAdd_ok {l : List Int} (h : ∀ x ∈ l, 0 ≤ x ∧ x ≤ 255) (k : Nat) (hk : 12 ≤ k) : ∃ L a b c, spec_DrawAddSample.f k l = some (L, a, b, c) ∧ L.length ≤ 9 := by
  obtain ⟨s, h1, hs⟩ := new_ok h
  unfold spec_DrawAddSample.f
  rw [h1]; simp only [Option.bind_some]
  obtain ⟨L, p, h2, h3, h4, h5, h6⟩ := anySmp_ok hs 0 k hk (by omega) (by omega)
  rw [h2]; simp only [Option.bind_some]
  obtain ⟨v, h7, _⟩ := pick_okk hs p 10 k (by omega) (by omega) (by omega)
  rw [h7]; simp only [Option.bind_some]
  obtain ⟨k, rfl⟩ : ∃ m, k = m + 1 := ⟨k - 1, by omega⟩
  by_cases h0 : v = 0
  · rw [if_pos h0]
    obtain ⟨a, b, c, e⟩ := addTail_ok hs [] (by simp) (p + 1) k (by omega) (by omega) (by omega)
    exact ⟨_, _, _, _, e, by simp⟩
  · rw [if_neg h0]
    obtain ⟨a, b, c, e⟩ := addTail_ok hs L h4 (p + 1) k (by omega) (by omega) (by omega)
    exact ⟨_, _, _, _, e, h4⟩
theorem FnAddSampleFull : laws_FnAddSampleFull.Pure := by
  intro l _ _ hw
  refine ⟨19 + 1, ?_⟩
  obtain ⟨L, a, b, c, hd, hL9⟩ := drawAdd_ok (bytes_rng hw) (19 + 1) (by omega)
  have hn := adR_len L ⟨a, b, c⟩
  unfold laws_FnAddSampleFull.f
  by_cases hL : (l.length : Int) > 1048576
  · rw [if_pos hL]
  · rw [if_neg hL, hd]
    simp only [Option.bind_some]
    rw [iAdd_eq (by omega) (by omega), sAdd_eq (by omega) (by omega)]
    simp only [Option.bind_some]
    rw [eqE_eq (by omega) (by omega)]
    simp only [Option.bind_some]
    rw [if_pos (by trivial), if_neg (by simp)]
    by_cases ho : adOk L ⟨a, b, c⟩ = true
    · rw [if_pos ho]
      obtain ⟨h1, h2⟩ := (adOk_iff L _).1 ho
      have hs := snoc_len L ⟨a, b, c⟩
      have h8 : L.length ≤ 8 := by
        by_cases h : 0 < L.length
        · exact ((vls_iff L).1 (h1 h)).2.2
        · omega
      unfold adR adS mn
      rw [if_pos ho, w64 (by omega) (by omega)]
      by_cases h : 8 < L.length + 1
      · rw [if_pos h, List.length_drop, hs]
        split <;> simp <;> omega
      · rw [if_neg h, hs]
        split <;> simp <;> omega
    · rw [if_neg ho]
      simp

end Go.Proofs.Ytllidfbdmmgoiaa.Pure
