/- The program's AddSample returns what the reference's returns, for all arguments, leaves its arguments as they were, and shares no memory with them or with another call. For every input; no condition. -/
import Derived.Test.YtllidfbdmmgoiaaPAllx23
import Derived.Test.YtllidfbdmmgoiaaBase
namespace Go.Proofs.Ytllidfbdmmgoiaa.Pure
open Go.RowKit Go.Proofs.Ytllidfbdmmgoiaa.PAll Go.Proofs.YtllidfbdmmgoiaaW.PrintWords Go.Proofs.YtllidfbdmmgoiaaW.PrintLast Go.Proofs.YtllidfbdmmgoiaaW.PrintMore Go.Proofs.Ytllidfbdmmgoiaa.Base
set_option linter.unusedVariables false
set_option linter.unusedSimpArgs false

abbrev Sm := S33

theorem wsucc {i : Nat} (h : i < 1152921504606846976) : wrap64 ((i : Int) + 1) = ((i + 1 : Nat) : Int) := by
  rw [w64 (by omega) (by omega)]; omega

theorem rdM {l : List Sm} {i : Nat} (h : i < l.length) : rd_T33 l (i : Int) = l[i] := by
  unfold rd_T33
  rw [Int.toNat_natCast, List.getD_eq_getElem?_getD, List.getElem?_eq_getElem h]; rfl

/-- Valid samples. -/
def vls (l : List Sm) : Bool := smpsOk (-1) l && decide (1 ≤ l.length ∧ l.length ≤ 8)
theorem iV_eq (l : List Sm) : impl_ValidSamples.f l = some (vls l) := rfl
theorem sV_eq (l : List Sm) : spec_validSamples.f l = some (vls l) := rfl

theorem vls_iff (l : List Sm) : vls l = true ↔ smpsOk (-1) l = true ∧ 1 ≤ l.length ∧ l.length ≤ 8 := by
  unfold vls; rw [Bool.and_eq_true, decide_eq_true_eq]

theorem smps_cons (p : Int) (s : Sm) (l : List Sm) : smpsOk p (s :: l) = true ↔ ((-1000000 ≤ s.f0 ∧ s.f0 ≤ 1000000) ∧ (0 ≤ s.f1 ∧ s.f1 ≤ 1000000) ∧ (0 ≤ s.f2 ∧ s.f2 ≤ 3786479999) ∧ p < s.f2) ∧ smpsOk s.f2 l = true := by
  rw [smpsOk.eq_2]
  unfold smpOk
  simp only [Bool.and_eq_true, decide_eq_true_eq]

theorem smps_rng : ∀ (l : List Sm) (p : Int), smpsOk p l = true → ∀ s ∈ l, (-1000000 ≤ s.f0 ∧ s.f0 ≤ 1000000) ∧ (0 ≤ s.f1 ∧ s.f1 ≤ 1000000) ∧ (0 ≤ s.f2 ∧ s.f2 ≤ 3786479999) ∧ p < s.f2
  | [], _, _, _, hs => by cases hs
  | t :: l, p, h, s, hs => by
    obtain ⟨h1, h2⟩ := (smps_cons p t l).1 h
    cases hs with
    | head => exact h1
    | tail _ hs =>
      obtain ⟨a, b, c, d⟩ := smps_rng l t.f2 h2 s hs
      exact ⟨a, b, c, by omega⟩

abbrev LSm := S40
def cv (s : LSm) : Sm := ⟨s.f0, s.f1, s.f2⟩

theorem rdL {l : List LSm} {i : Nat} (h : i < l.length) : rd_T40 l (i : Int) = l[i] := by
  unfold rd_T40
  rw [Int.toNat_natCast, List.getD_eq_getElem?_getD, List.getElem?_eq_getElem h]; rfl

theorem to_l0 (x : List LSm) (hx : x.length ≤ 1048576) : ∀ (k i : Nat) (acc : List Sm), acc.length = x.length → i ≤ x.length → x.length - i < k →
    laws_toSampleS.l0 k x acc (i : Int) = some (acc.take i ++ (x.drop i).map cv) := by
  intro k
  induction k with
  | zero => intro i _ _ _ hk; omega
  | succ k ih =>
    intro i acc ha hi hk
    simp only [laws_toSampleS.l0]
    by_cases hlt : i < x.length
    · rw [if_pos (by omega), if_pos (by omega), rdL hlt]
      unfold laws_toSample.f
      simp only [Option.bind_some]
      rw [if_pos (by omega), Int.toNat_natCast, wsucc (by omega), ih (i + 1) _ (by rw [List.length_set]; exact ha) (by omega) (by omega)]
      rw [List.drop_eq_getElem_cons hlt, List.map_cons, List.take_succ_eq_append_getElem (by rw [List.length_set]; omega), List.getElem_set_self, List.take_set_of_le (Nat.le_refl i), List.append_assoc]
      rfl
    · have e : i = x.length := by omega
      rw [if_neg (by omega), e, List.drop_length, List.map_nil, List.append_nil, ← ha, List.take_length]

theorem to_eq {x : List LSm} (hx : x.length ≤ 1048576) {k : Nat} (hk : x.length < k) : laws_toSampleS.f k x = some (x.map cv) := by
  unfold laws_toSampleS.f
  rw [if_pos (by omega), if_pos (by omega)]
  have h := to_l0 x hx k 0 (List.replicate ((x.length : Int) : Int).toNat z33) (by rw [List.length_replicate, Int.toNat_natCast]) (Nat.zero_le _) (by omega)
  rw [List.take_zero, List.drop_zero, List.nil_append] at h
  exact h

theorem eqM (a b c : Int) : laws_eqSample.f a b c a b c = some true := by
  unfold laws_eqSample.f
  rw [if_pos rfl, if_pos rfl, if_pos rfl]

theorem eqS_l0 (x : List Sm) (hx : x.length ≤ 1048577) : ∀ (k i : Nat), i ≤ x.length → x.length - i < k → laws_eqSampleS.l0 k x x (i : Int) = some true := by
  intro k
  induction k with
  | zero => intro i _ hk; omega
  | succ k ih =>
    intro i hi hk
    simp only [laws_eqSampleS.l0]
    by_cases hlt : i < x.length
    · rw [if_pos (by omega), if_pos (by omega), if_pos (by omega), eqM]
      simp only [Option.bind_some]
      rw [if_pos (by trivial), wsucc (by omega)]
      exact ih (i + 1) (by omega) (by omega)
    · rw [if_neg (by omega)]

theorem eqS_eq {x : List Sm} (hx : x.length ≤ 1048577) {k : Nat} (hk : x.length < k) : laws_eqSampleS.f k x x = some true := by
  unfold laws_eqSampleS.f
  rw [if_pos rfl]
  exact eqS_l0 x hx k 0 (Nat.zero_le _) (by omega)

theorem sz_eq (x : List LSm) (hm : x.length ≤ maxLen) : laws_szSampleS.f x 1048576 = some (if x.length ≤ 1048576 then 1048576 - (x.length : Int) else -1) := by
  unfold laws_szSampleS.f
  unfold maxLen at hm
  rw [w64 (by omega) (by omega)]
  by_cases h : x.length ≤ 1048576
  · rw [if_neg (by omega), if_pos h]
  · rw [if_pos (by omega), if_neg h]

/-- Samples and another one behind them, without the first one if there would be more than 8. -/
def adS (l : List Sm) (s : Sm) : List Sm := if 8 < l.length + 1 then (l ++ [s]).drop 1 else l ++ [s]
/-- Does AddSample answer samples? -/
def adOk (l : List Sm) (s : Sm) : Bool := !(decide (0 < l.length) && !vls l) && vls (adS l s)
/-- The samples that it answers. -/
def adR (l : List Sm) (s : Sm) : List Sm := if adOk l s = true then adS l s else []

theorem clone_eq {l : List Sm} (h : l.length ≤ 1048577) : impl_Sample_42.f l = some l := by
  unfold impl_Sample_42.f; rw [if_pos (by omega)]

theorem del_eq {l : List Sm} (h : 0 < l.length) : impl_Sample_43.f l 0 1 = some (l.drop 1) := by
  unfold impl_Sample_43.f; rw [if_pos ⟨⟨h, rfl⟩, rfl⟩]

theorem snoc_len (l : List Sm) (s : Sm) : (l ++ [s]).length = l.length + 1 := by rw [List.length_append, List.length_singleton]

theorem iAdd_j0 {l : List Sm} (hl : l.length ≤ 1048577) (k : Nat) (v : Bool) (a b c : Int) :
    impl_AddSample.j0 (k + 1) l v a b c = some (if v = true then (([] : List Sm), false) else if vls (adS l ⟨a, b, c⟩) = true then (adS l ⟨a, b, c⟩, true) else ([], false)) := by
  rw [impl_AddSample.j0]
  cases v with
  | true => rw [if_pos rfl, if_pos rfl]
  | false =>
    have hn := snoc_len l ⟨a, b, c⟩
    rw [if_neg (by decide), if_neg (by decide), clone_eq hl]
    simp only [Option.bind_some]
    rw [if_pos (by rw [List.length_singleton]; omega)]
    unfold adS
    by_cases h : 8 < l.length + 1
    · rw [if_pos h, if_pos (by omega), del_eq (by omega)]
      simp only [Option.bind_some]
      rw [iV_eq]; simp only [Option.bind_some]
      split <;> rfl
    · rw [if_neg h, if_neg (by omega), iV_eq]
      simp only [Option.bind_some]
      split <;> rfl

theorem add_fin (l : List Sm) (s : Sm) (v : Bool) (hv : v = (decide (0 < l.length) && !vls l)) :
    (if v = true then (([] : List Sm), false) else if vls (adS l s) = true then (adS l s, true) else ([], false)) = (adR l s, adOk l s) := by
  unfold adR adOk
  rw [← hv]
  cases v with
  | true => rfl
  | false =>
    rw [if_neg (by decide)]
    simp only [Bool.not_false, Bool.true_and]
    by_cases h : vls (adS l s) = true
    · rw [if_pos h, if_pos h, h]
    · rw [if_neg h, if_neg h, Bool.eq_false_iff.mpr h]

theorem iAdd_eq {l : List Sm} (hl : l.length ≤ 1048577) {k : Nat} (hk : 0 < k) (a b c : Int) : impl_AddSample.f k l a b c = some (adR l ⟨a, b, c⟩, adOk l ⟨a, b, c⟩) := by
  obtain ⟨k, rfl⟩ : ∃ m, k = m + 1 := ⟨k - 1, by omega⟩
  unfold impl_AddSample.f
  by_cases h : 0 < l.length
  · rw [if_pos (by omega), iV_eq]
    simp only [Option.bind_some]
    rw [iAdd_j0 hl, add_fin l _ (!vls l) (by rw [decide_eq_true h]; rfl)]
  · rw [if_neg (by omega), iAdd_j0 hl, add_fin l _ false (by rw [decide_eq_false h]; rfl)]

theorem adS_len (l : List Sm) (s : Sm) : (adS l s).length ≤ l.length + 1 := by
  unfold adS
  have hn := snoc_len l s
  by_cases h : 8 < l.length + 1
  · rw [if_pos h, List.length_drop]; omega
  · rw [if_neg h]; omega

theorem adR_len (l : List Sm) (s : Sm) : (adR l s).length ≤ l.length + 1 := by
  unfold adR
  by_cases h : adOk l s = true
  · rw [if_pos h]; exact adS_len l s
  · rw [if_neg h]; exact Nat.zero_le _

theorem adOk_iff (l : List Sm) (s : Sm) : adOk l s = true ↔ (0 < l.length → vls l = true) ∧ vls (adS l s) = true := by
  unfold adOk
  rw [Bool.and_eq_true]
  by_cases h : 0 < l.length
  · rw [decide_eq_true h]; simp [h]
  · rw [decide_eq_false h]; simp [h]
theorem sAdd_j0 {l : List Sm} (hl : l.length ≤ 1048577) (k : Nat) (v : Bool) (a b c : Int) :
    spec_AddSample.j0 (k + 1) l v a b c = some (if v = true then (([] : List Sm), false) else if vls (adS l ⟨a, b, c⟩) = true then (adS l ⟨a, b, c⟩, true) else ([], false)) := by
  rw [spec_AddSample.j0]
  cases v with
  | true => rw [if_pos rfl, if_pos rfl]
  | false =>
    have hn := snoc_len l ⟨a, b, c⟩
    rw [if_neg (by decide), if_neg (by decide)]
    simp only [Option.bind_some, List.nil_append]
    rw [if_pos (by rw [List.length_nil]; omega), if_pos (by rw [List.length_singleton]; omega)]
    unfold adS
    by_cases h : 8 < l.length + 1
    · rw [if_pos h, if_pos (by omega), if_pos (by omega), show (1 : Int).toNat = 1 from rfl, sV_eq]
      simp only [Option.bind_some]
      split <;> rfl
    · rw [if_neg h, if_neg (by omega), sV_eq]
      simp only [Option.bind_some]
      split <;> rfl

theorem sAdd_eq {l : List Sm} (hl : l.length ≤ 1048577) {k : Nat} (hk : 0 < k) (a b c : Int) : spec_AddSample.f k l a b c = some (adR l ⟨a, b, c⟩, adOk l ⟨a, b, c⟩) := by
  obtain ⟨k, rfl⟩ : ∃ m, k = m + 1 := ⟨k - 1, by omega⟩
  unfold spec_AddSample.f
  by_cases h : 0 < l.length
  · rw [if_pos (by omega), sV_eq]
    simp only [Option.bind_some]
    rw [sAdd_j0 hl, add_fin l _ (!vls l) (by rw [decide_eq_true h]; rfl)]
  · rw [if_neg (by omega), sAdd_j0 hl, add_fin l _ false (by rw [decide_eq_false h]; rfl)]

/-- Samples of numbers in a row, from m on. -/
def seqM : Int → Nat → List Sm
  | _, 0 => []
  | m, n + 1 => ⟨m, m + 1, m + 2⟩ :: seqM (m + 3) n

theorem seqM_len : ∀ (n : Nat) (m : Int), (seqM m n).length = n
  | 0, m => rfl
  | n + 1, m => by unfold seqM; rw [List.length_cons, seqM_len n]

theorem rdSet {l : List Sm} {i : Nat} (h : i < l.length) (v : Sm) : rd_T33 (l.set i v) (i : Int) = v := by
  rw [rdM (by rw [List.length_set]; exact h), List.getElem_set_self]

theorem markM_l0 : ∀ (d k i : Nat) (x : List Sm) (m : Int), i ≤ x.length → x.length - i = d → d < k → x.length ≤ 1048577 → 0 ≤ m → m + 3 * d ≤ 100000000 →
    laws_markSampleS.l0 k x m (i : Int) = some (m + 3 * d, x.take i ++ seqM m d) := by
  intro d
  induction d with
  | zero =>
    intro k i x m hi hd hk hx h0 h1
    obtain ⟨k, rfl⟩ : ∃ m, k = m + 1 := ⟨k - 1, by omega⟩
    have e : i = x.length := by omega
    rw [laws_markSampleS.l0, if_neg (by omega), e, List.take_length]
    unfold seqM
    rw [List.append_nil, show m + 3 * ((0 : Nat) : Int) = m by omega]
  | succ d ih =>
    intro k i x m hi hd hk hx h0 h1
    obtain ⟨k, rfl⟩ : ∃ m, k = m + 1 := ⟨k - 1, by omega⟩
    have hlt : i < x.length := by omega
    rw [laws_markSampleS.l0, if_pos (by omega), if_pos (by omega)]
    simp only [Option.bind_some, Int.toNat_natCast, rdSet hlt, List.set_set]
    rw [wsucc (by omega), w64 (x := m + 1) (by omega) (by omega), w64 (x := m + 1 + 1) (by omega) (by omega), w64 (x := m + 1 + 1 + 1) (by omega) (by omega)]
    rw [ih k (i + 1) _ (m + 1 + 1 + 1) (by rw [List.length_set]; omega) (by rw [List.length_set]; omega) (by omega) (by rw [List.length_set]; omega) (by omega) (by omega)]
    rw [List.take_succ_eq_append_getElem (by rw [List.length_set]; omega), List.getElem_set_self, List.take_set_of_le (Nat.le_refl i), List.append_assoc]
    rw [show m + 1 + 1 + 1 + 3 * (d : Int) = m + 3 * ((d + 1 : Nat) : Int) by omega, show m + 1 + 1 + 1 = m + 3 by omega, show m + 1 + 1 = m + 2 by omega]
    rfl

theorem markM_eq {x : List Sm} (hx : x.length ≤ 1048577) {k : Nat} (hk : x.length < k) : laws_markSampleS.f k x 1 = some (1 + 3 * (x.length : Int), seqM 1 x.length) := by
  unfold laws_markSampleS.f
  have h := markM_l0 x.length k 0 x 1 (Nat.zero_le _) (by omega) hk hx (by omega) (by omega)
  rw [List.take_zero, List.nil_append] at h
  exact h

theorem heldM_l0 : ∀ (d k i : Nat) (x : List Sm) (q : Int), x.length = i + d → d < k → x.length ≤ 1048577 → 0 ≤ q → q + 3 * d ≤ 100000000 → x.drop i = seqM q d →
    laws_heldSampleS.l0 k x q (i : Int) = some (q + 3 * d) := by
  intro d
  induction d with
  | zero =>
    intro k i x q hl hk hx h0 h1 he
    obtain ⟨k, rfl⟩ : ∃ m, k = m + 1 := ⟨k - 1, by omega⟩
    rw [laws_heldSampleS.l0, if_neg (by omega), show q + 3 * ((0 : Nat) : Int) = q by omega]
  | succ d ih =>
    intro k i x q hl hk hx h0 h1 he
    obtain ⟨k, rfl⟩ : ∃ m, k = m + 1 := ⟨k - 1, by omega⟩
    have hlt : i < x.length := by omega
    rw [List.drop_eq_getElem_cons hlt] at he
    unfold seqM at he
    obtain ⟨e1, e2⟩ := List.cons.inj he
    rw [laws_heldSampleS.l0, if_pos (by omega), if_pos (by omega), rdM hlt, e1, w64 (x := q + 1) (by omega) (by omega), w64 (x := q + 1 + 1) (by omega) (by omega), w64 (x := q + 1 + 1 + 1) (by omega) (by omega), if_pos rfl, if_pos rfl, if_pos (by show q + 2 = q + 1 + 1; omega), wsucc (by omega)]
    rw [ih k (i + 1) x (q + 1 + 1 + 1) (by omega) (by omega) hx (by omega) (by omega) (by rw [e2, show q + 1 + 1 + 1 = q + 3 by omega])]
    congr 1
    omega

theorem heldM_eq {n : Nat} (hn : n ≤ 1048577) {k : Nat} (hk : n < k) : laws_heldSampleS.f k (seqM 1 n) 1 = some (1 + 3 * (n : Int)) := by
  unfold laws_heldSampleS.f
  exact heldM_l0 n k 0 (seqM 1 n) 1 (by rw [seqM_len]; omega) hk (by rw [seqM_len]; omega) (by omega) (by omega) (by rw [List.drop_zero])

theorem FnExactAddSample : ∀ (l0 : List S40) (a1_0 : Int) (a1_1 : Int) (a1_2 : Int), l0.length ≤ maxLen → (Lit.int .i64 a1_0).wf = true → (Lit.int .i64 a1_1).wf = true → (Lit.int .i64 a1_2).wf = true → ∃ k, laws_FnExactAddSample.f k l0 a1_0 a1_1 a1_2 = some true := by
  intro x a b c hm _ _ _
  refine ⟨x.length + 9 + 1 + 1 + 1, ?_⟩
  unfold laws_FnExactAddSample.f
  rw [sz_eq x hm]; simp only [Option.bind_some]
  by_cases h : x.length ≤ 1048576
  · have hl : (x.map cv).length = x.length := List.length_map _
    have hn := adR_len (x.map cv) ⟨a, b, c⟩
    have et : laws_toSample.f a b c = some (a, b, c) := rfl
    have ne : (adOk (x.map cv) ⟨a, b, c⟩ != adOk (x.map cv) ⟨a, b, c⟩) = false := by simp
    rw [if_pos h, if_neg (by omega), to_eq h (by omega), et]
    simp only [Option.bind_some]
    rw [sAdd_eq (by omega) (by omega), iAdd_eq (by omega) (by omega)]
    simp only [Option.bind_some]
    rw [eqS_eq (by omega) (by omega)]
    simp only [Option.bind_some]
    rw [if_pos (by trivial), ne, laws_FnExactAddSample.j0, if_neg (by decide), to_eq h (by omega)]
    simp only [Option.bind_some]
    rw [eqS_eq (by omega) (by omega)]
    simp only [Option.bind_some]
    rw [if_pos (by trivial), markM_eq (by omega) (by omega)]
    simp only [Option.bind_some]
    rw [if_neg (by omega), eqS_eq (by omega) (by omega)]
    simp only [Option.bind_some]
    rw [if_pos (by trivial), ne, laws_FnExactAddSample.j1, if_neg (by decide), markM_eq (by omega) (by omega)]
    simp only [Option.bind_some]
    rw [heldM_eq (by omega) (by omega)]
    simp only [Option.bind_some]
    rw [if_neg (by omega), if_pos (by trivial), to_eq h (by omega), et]
    simp only [Option.bind_some]
    rw [iAdd_eq (by omega) (by omega)]
    simp only [Option.bind_some]
    rw [eqS_eq (by omega) (by omega)]
    simp only [Option.bind_some]
    rw [if_pos (by trivial), ne, laws_FnExactAddSample.j2, if_neg (by decide), heldM_eq (by omega) (by omega)]
    simp only [Option.bind_some]
    rw [if_neg (by omega), if_pos (by trivial)]
  · rw [if_neg h, if_pos (by omega)]

end Go.Proofs.Ytllidfbdmmgoiaa.Pure
