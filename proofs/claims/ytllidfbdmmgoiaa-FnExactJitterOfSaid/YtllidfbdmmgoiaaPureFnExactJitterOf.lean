/- The program's JitterOf returns what the reference's returns, for all samples, and leaves its argument as it was. For every input; no condition. -/
import Derived.Test.YtllidfbdmmgoiaaPAllx8
import Derived.Test.YtllidfbdmmgoiaaBase
namespace Go.Proofs.Ytllidfbdmmgoiaa.Pure
open Go.RowKit Go.Proofs.Ytllidfbdmmgoiaa.PAll Go.Proofs.YtllidfbdmmgoiaaW.PrintWords Go.Proofs.YtllidfbdmmgoiaaW.PrintLast Go.Proofs.YtllidfbdmmgoiaaW.PrintMore Go.Proofs.Ytllidfbdmmgoiaa.Base
set_option linter.unusedVariables false
set_option linter.unusedSimpArgs false

abbrev Sm := S33

theorem wsucc {i : Nat} (h : i < 1152921504606846976) : wrap64 ((i : Int) + 1) = ((i + 1 : Nat) : Int) := by
  rw [w64 (by omega) (by omega)]; omega

theorem rdM {l : List Sm} {i : Nat} (h : i < l.length) : rd_T33 l (i : Int) = l[i] := by
  unfold rd_T33
  rw [Int.toNat_natCast, List.getD_eq_getElem?_getD, List.getElem?_eq_getElem h]; rfl

/-- Valid samples. -/
def vls (l : List Sm) : Bool := smpsOk (-1) l && decide (1 ≤ l.length ∧ l.length ≤ 8)
theorem iV_eq (l : List Sm) : impl_ValidSamples.f l = some (vls l) := rfl
theorem sV_eq (l : List Sm) : spec_validSamples.f l = some (vls l) := rfl

theorem vls_iff (l : List Sm) : vls l = true ↔ smpsOk (-1) l = true ∧ 1 ≤ l.length ∧ l.length ≤ 8 := by
  unfold vls; rw [Bool.and_eq_true, decide_eq_true_eq]

theorem smps_cons (p : Int) (s : Sm) (l : List Sm) : smpsOk p (s :: l) = true ↔ ((-1000000 ≤ s.f0 ∧ s.f0 ≤ 1000000) ∧ (0 ≤ s.f1 ∧ s.f1 ≤ 1000000) ∧ (0 ≤ s.f2 ∧ s.f2 ≤ 3786479999) ∧ p < s.f2) ∧ smpsOk s.f2 l = true := by
  rw [smpsOk.eq_2]
  unfold smpOk
  simp only [Bool.and_eq_true, decide_eq_true_eq]

theorem smps_rng : ∀ (l : List Sm) (p : Int), smpsOk p l = true → ∀ s ∈ l, (-1000000 ≤ s.f0 ∧ s.f0 ≤ 1000000) ∧ (0 ≤ s.f1 ∧ s.f1 ≤ 1000000) ∧ (0 ≤ s.f2 ∧ s.f2 ≤ 3786479999) ∧ p < s.f2
  | [], _, _, _, hs => by cases hs
  | t :: l, p, h, s, hs => by
    obtain ⟨h1, h2⟩ := (smps_cons p t l).1 h
    cases hs with
    | head => exact h1
    | tail _ hs =>
      obtain ⟨a, b, c, d⟩ := smps_rng l t.f2 h2 s hs
      exact ⟨a, b, c, by omega⟩

/-- The sample with the least delay, of several the last one. -/
def bst : Sm → List Sm → Sm
  | b, [] => b
  | b, s :: l => bst (if s.f1 ≤ b.f1 then s else b) l

theorem bst_mem : ∀ (l : List Sm) (b : Sm), bst b l = b ∨ bst b l ∈ l
  | [], b => Or.inl rfl
  | s :: l, b => by
    unfold bst
    by_cases h : s.f1 ≤ b.f1
    · rw [if_pos h]
      rcases bst_mem l s with e | e
      · rw [e]; exact Or.inr (List.mem_cons_self ..)
      · exact Or.inr (List.mem_cons_of_mem _ e)
    · rw [if_neg h]
      rcases bst_mem l b with e | e
      · exact Or.inl e
      · exact Or.inr (List.mem_cons_of_mem _ e)

theorem sBest_l0 (l : List Sm) (hl : l.length ≤ 1152921504606846975) : ∀ (k i a : Nat) (ha : a < l.length), i ≤ l.length → l.length - i < k →
    ∃ (b : Nat) (hb : b < l.length), spec_bestAt.l0 k l (a : Int) (i : Int) = some (b : Int) ∧ l[b] = bst l[a] (l.drop i) := by
  intro k
  induction k with
  | zero => intro i _ _ _ hk; omega
  | succ k ih =>
    intro i a ha hi hk
    simp only [spec_bestAt.l0]
    by_cases hlt : i < l.length
    · rw [if_pos (by omega), if_pos (by omega), if_pos (by omega), if_pos (by omega), rdM hlt, rdM ha, wsucc (by omega), List.drop_eq_getElem_cons hlt]
      unfold bst
      by_cases hc : l[i].f1 ≤ l[a].f1
      · rw [if_pos hc, if_pos hc]
        exact ih (i + 1) i hlt (by omega) (by omega)
      · rw [if_neg hc, if_neg hc]
        exact ih (i + 1) a ha (by omega) (by omega)
    · have e : i = l.length := by omega
      rw [if_neg (by omega), e, List.drop_length]
      exact ⟨a, ha, rfl, rfl⟩

/-- The best of valid samples. -/
def best : List Sm → Sm
  | [] => z33
  | s :: l => bst s l

theorem best_eq {l : List Sm} (h : 0 < l.length) : best l = bst l[0] (l.drop 1) := by
  cases l with
  | nil => simp at h
  | cons s l => rfl

theorem best_eq0 {l : List Sm} (h : 0 < l.length) : best l = bst l[0] l := by
  cases l with
  | nil => simp at h
  | cons s l =>
    show bst s l = bst s (s :: l)
    conv => rhs; unfold bst
    rw [if_pos (Int.le_refl _)]

theorem best_mem {l : List Sm} (h : 0 < l.length) : best l ∈ l := by
  cases l with
  | nil => simp at h
  | cons s l =>
    show bst s l ∈ s :: l
    rcases bst_mem l s with e | e
    · rw [e]; exact List.mem_cons_self ..
    · exact List.mem_cons_of_mem _ e

theorem sBestAt_eq {l : List Sm} (hl : l.length ≤ 1152921504606846975) (h : 0 < l.length) {k : Nat} (hk : l.length < k) :
    ∃ (b : Nat) (hb : b < l.length), spec_bestAt.f k l = some (b : Int) ∧ l[b] = best l := by
  unfold spec_bestAt.f
  obtain ⟨b, hb, e1, e2⟩ := sBest_l0 l hl k 1 0 h (by omega) (by omega)
  exact ⟨b, hb, e1, by rw [e2, best_eq h]⟩

theorem sBestS_eq {l : List Sm} {k : Nat} (hk : l.length < k) :
    spec_BestSample.f k l = some (if vls l = true then ((best l).f0, (best l).f1, (best l).f2, true) else (0, 0, 0, false)) := by
  unfold spec_BestSample.f
  rw [sV_eq]; simp only [Option.bind_some]
  by_cases hv : vls l = true
  · obtain ⟨_, h1, h8⟩ := (vls_iff l).1 hv
    rw [if_pos hv, if_pos hv]
    obtain ⟨b, hb, e1, e2⟩ := sBestAt_eq (l := l) (by omega) (by omega) hk
    rw [e1]; simp only [Option.bind_some]
    rw [if_pos (by omega), if_pos (by omega), rdM hb, e2]
  · rw [if_neg hv, if_neg hv]

theorem iBest_l0 (l : List Sm) (hl : l.length ≤ 1152921504606846975) : ∀ (k i : Nat) (b : Sm), i ≤ l.length → l.length - i < k →
    impl_BestSample.l0 k l (l.length : Int) (i : Int) b.f0 b.f1 b.f2 = some ((bst b (l.drop i)).f0, (bst b (l.drop i)).f1, (bst b (l.drop i)).f2, true) := by
  intro k
  induction k with
  | zero => intro i _ _ hk; omega
  | succ k ih =>
    intro i b hi hk
    simp only [impl_BestSample.l0]
    by_cases hlt : i < l.length
    · rw [if_pos (by omega), if_pos (by omega), if_pos (by omega), rdM hlt, wsucc (by omega), List.drop_eq_getElem_cons hlt]
      unfold bst
      by_cases hc : l[i].f1 ≤ b.f1
      · rw [if_pos hc, if_pos hc]
        exact ih (i + 1) l[i] (by omega) (by omega)
      · rw [if_neg hc, if_neg hc]
        exact ih (i + 1) b (by omega) (by omega)
    · have e : i = l.length := by omega
      rw [if_neg (by omega), e, List.drop_length]
      rfl

theorem iBestS_eq {l : List Sm} {k : Nat} (hk : l.length < k) :
    impl_BestSample.f k l = some (if vls l = true then ((best l).f0, (best l).f1, (best l).f2, true) else (0, 0, 0, false)) := by
  unfold impl_BestSample.f
  rw [iV_eq]; simp only [Option.bind_some]
  by_cases hv : vls l = true
  · obtain ⟨_, h1, h8⟩ := (vls_iff l).1 hv
    rw [if_pos hv, if_pos hv, if_pos (by omega)]
    have e0 : rd_T33 l 0 = l[0] := rdM (i := 0) (by omega)
    have h := iBest_l0 l (by omega) k 0 l[0] (by omega) (by omega)
    rw [List.drop_zero] at h
    rw [e0, best_eq0 (by omega)]
    exact h
  · rw [if_neg hv, if_neg hv]

/-- The sum of the absolute differences. -/
def ab (x : Int) : Int := if x < 0 then -x else x
def jsum (c : Int) : List Sm → Int
  | [] => 0
  | s :: l => ab (s.f0 - c) + jsum c l

theorem ab_rng {x y : Int} (hx : -1000000 ≤ x ∧ x ≤ 1000000) (hy : -1000000 ≤ y ∧ y ≤ 1000000) : 0 ≤ ab (x - y) ∧ ab (x - y) ≤ 2000000 := by
  unfold ab; split <;> omega

theorem size_eq {x y : Int} (hx : -1000000 ≤ x ∧ x ≤ 1000000) (hy : -1000000 ≤ y ∧ y ≤ 1000000) : spec_size.f (wrap64 (x - y)) = some (ab (x - y)) := by
  unfold spec_size.f ab mx
  rw [w64 (x := x - y) (by omega) (by omega), w64 (by omega) (by omega)]
  congr 1
  by_cases h : x - y < 0
  · rw [if_pos h, if_pos (by omega)]
  · rw [if_neg h]; split <;> omega

theorem apart_eq {x y : Int} (hx : -1000000 ≤ x ∧ x ≤ 1000000) (hy : -1000000 ≤ y ∧ y ≤ 1000000) : impl_apart.f x y = some (ab (x - y)) := by
  unfold impl_apart.f ab mx
  rw [w64 (x := x - y) (by omega) (by omega), w64 (by omega) (by omega)]
  congr 1
  by_cases h : x - y < 0
  · rw [if_pos h, if_pos (by omega)]; omega
  · rw [if_neg h]; split <;> omega

theorem sJit_l0 (l : List Sm) (hl : l.length ≤ 8) (h1 : 0 < l.length) (c : Int) (hc : -1000000 ≤ c ∧ c ≤ 1000000) (hr : ∀ s ∈ l, -1000000 ≤ s.f0 ∧ s.f0 ≤ 1000000) :
    ∀ (k i : Nat) (n : Int), i ≤ l.length → l.length - i < k → 0 ≤ n → n ≤ 2000000 * i →
    spec_JitterOf.l0 k l n c (i : Int) = some (Int.tdiv (n + jsum c (l.drop i)) l.length) := by
  intro k
  induction k with
  | zero => intro i _ _ hk; omega
  | succ k ih =>
    intro i n hi hk h0 hn
    simp only [spec_JitterOf.l0]
    by_cases hlt : i < l.length
    · have hm := hr l[i] (List.getElem_mem hlt)
      have hq := ab_rng hm hc
      rw [if_pos (by omega), if_pos (by omega), rdM hlt, size_eq hm hc]
      simp only [Option.bind_some]
      rw [wsucc (by omega), List.drop_eq_getElem_cons hlt]
      unfold jsum
      generalize ab (l[i].f0 - c) = q at hq ⊢
      rw [w64 (x := n + q) (by omega) (by omega), ih (i + 1) (n + q) (by omega) (by omega) (by omega) (by omega), Int.add_assoc]
    · have e : i = l.length := by omega
      have hd := ediv_rng (a := n) (b := (l.length : Int)) h0 (by omega)
      rw [if_neg (by omega), if_neg (by omega), e, List.drop_length]
      unfold jsum
      rw [Int.add_zero, tdiv_nn h0, w64 (by omega) (by omega)]

theorem iJit_l0 (l : List Sm) (hl : l.length ≤ 8) (h1 : 0 < l.length) (c c1 c2 : Int) (hc : -1000000 ≤ c ∧ c ≤ 1000000) (hr : ∀ s ∈ l, -1000000 ≤ s.f0 ∧ s.f0 ≤ 1000000) :
    ∀ (k i : Nat) (n : Int), i ≤ l.length → l.length - i < k → 0 ≤ n → n ≤ 2000000 * i →
    impl_JitterOf.l0 k l n l (l.length : Int) (i : Int) c c1 c2 = some (Int.tdiv (n + jsum c (l.drop i)) l.length) := by
  intro k
  induction k with
  | zero => intro i _ _ hk; omega
  | succ k ih =>
    intro i n hi hk h0 hn
    simp only [impl_JitterOf.l0]
    by_cases hlt : i < l.length
    · have hm := hr l[i] (List.getElem_mem hlt)
      have hq := ab_rng hm hc
      rw [if_pos (by omega), if_pos (by omega), if_pos (by omega), rdM hlt, apart_eq hm hc]
      simp only [Option.bind_some]
      rw [wsucc (by omega), List.drop_eq_getElem_cons hlt]
      unfold jsum
      generalize ab (l[i].f0 - c) = q at hq ⊢
      rw [w64 (x := n + q) (by omega) (by omega), ih (i + 1) (n + q) (by omega) (by omega) (by omega) (by omega), Int.add_assoc]
    · have e : i = l.length := by omega
      have hd := ediv_rng (a := n) (b := (l.length : Int)) h0 (by omega)
      rw [if_neg (by omega), if_neg (by omega), e, List.drop_length]
      unfold jsum
      rw [Int.add_zero, tdiv_nn h0, w64 (by omega) (by omega)]

/-- The jitter. -/
def jit (l : List Sm) : Int := if vls l = true then Int.tdiv (jsum (best l).f0 l) l.length else -1

theorem vls_rng {l : List Sm} (hv : vls l = true) : ∀ s ∈ l, -1000000 ≤ s.f0 ∧ s.f0 ≤ 1000000 := fun s hs => (smps_rng l (-1) ((vls_iff l).1 hv).1 s hs).1

theorem sJit_eq {l : List Sm} {k : Nat} (hk : l.length < k) : spec_JitterOf.f k l = some (jit l) := by
  unfold spec_JitterOf.f jit
  rw [sV_eq]; simp only [Option.bind_some]
  by_cases hv : vls l = true
  · obtain ⟨_, h1, h8⟩ := (vls_iff l).1 hv
    rw [if_pos hv, if_pos hv]
    obtain ⟨b, hb, e1, e2⟩ := sBestAt_eq (l := l) (by omega) (by omega) hk
    rw [e1]; simp only [Option.bind_some]
    rw [if_pos (by omega), if_pos (by omega), rdM hb, e2]
    have h := sJit_l0 l h8 (by omega) (best l).f0 (vls_rng hv _ (best_mem (by omega))) (vls_rng hv) k 0 0 (by omega) (by omega) (by omega) (by omega)
    rw [List.drop_zero, Int.zero_add] at h
    exact h
  · rw [if_neg hv, if_neg hv]

theorem iJit_eq {l : List Sm} {k : Nat} (hk : l.length < k) : impl_JitterOf.f k l = some (jit l) := by
  unfold impl_JitterOf.f jit
  rw [iBestS_eq hk]; simp only [Option.bind_some]
  by_cases hv : vls l = true
  · obtain ⟨_, h1, h8⟩ := (vls_iff l).1 hv
    rw [if_pos hv, if_pos hv, if_pos rfl]
    have h := iJit_l0 l h8 (by omega) (best l).f0 (best l).f1 (best l).f2 (vls_rng hv _ (best_mem (by omega))) (vls_rng hv) k 0 0 (by omega) (by omega) (by omega) (by omega)
    rw [List.drop_zero, Int.zero_add] at h
    exact h
  · rw [if_neg hv, if_neg hv, if_neg (by decide)]

abbrev LSm := S40
def cv (s : LSm) : Sm := ⟨s.f0, s.f1, s.f2⟩

theorem rdL {l : List LSm} {i : Nat} (h : i < l.length) : rd_T40 l (i : Int) = l[i] := by
  unfold rd_T40
  rw [Int.toNat_natCast, List.getD_eq_getElem?_getD, List.getElem?_eq_getElem h]; rfl

theorem to_l0 (x : List LSm) (hx : x.length ≤ 1048576) : ∀ (k i : Nat) (acc : List Sm), acc.length = x.length → i ≤ x.length → x.length - i < k →
    laws_toSampleS.l0 k x acc (i : Int) = some (acc.take i ++ (x.drop i).map cv) := by
  intro k
  induction k with
  | zero => intro i _ _ _ hk; omega
  | succ k ih =>
    intro i acc ha hi hk
    simp only [laws_toSampleS.l0]
    by_cases hlt : i < x.length
    · rw [if_pos (by omega), if_pos (by omega), rdL hlt]
      unfold laws_toSample.f
      simp only [Option.bind_some]
      rw [if_pos (by omega), Int.toNat_natCast, wsucc (by omega), ih (i + 1) _ (by rw [List.length_set]; exact ha) (by omega) (by omega)]
      rw [List.drop_eq_getElem_cons hlt, List.map_cons, List.take_succ_eq_append_getElem (by rw [List.length_set]; omega), List.getElem_set_self, List.take_set_of_le (Nat.le_refl i), List.append_assoc]
      rfl
    · have e : i = x.length := by omega
      rw [if_neg (by omega), e, List.drop_length, List.map_nil, List.append_nil, ← ha, List.take_length]

theorem to_eq {x : List LSm} (hx : x.length ≤ 1048576) {k : Nat} (hk : x.length < k) : laws_toSampleS.f k x = some (x.map cv) := by
  unfold laws_toSampleS.f
  rw [if_pos (by omega), if_pos (by omega)]
  have h := to_l0 x hx k 0 (List.replicate ((x.length : Int) : Int).toNat z33) (by rw [List.length_replicate, Int.toNat_natCast]) (Nat.zero_le _) (by omega)
  rw [List.take_zero, List.drop_zero, List.nil_append] at h
  exact h

theorem eqM (a b c : Int) : laws_eqSample.f a b c a b c = some true := by
  unfold laws_eqSample.f
  rw [if_pos rfl, if_pos rfl, if_pos rfl]

theorem eqS_l0 (x : List Sm) (hx : x.length ≤ 1048577) : ∀ (k i : Nat), i ≤ x.length → x.length - i < k → laws_eqSampleS.l0 k x x (i : Int) = some true := by
  intro k
  induction k with
  | zero => intro i _ hk; omega
  | succ k ih =>
    intro i hi hk
    simp only [laws_eqSampleS.l0]
    by_cases hlt : i < x.length
    · rw [if_pos (by omega), if_pos (by omega), if_pos (by omega), eqM]
      simp only [Option.bind_some]
      rw [if_pos (by trivial), wsucc (by omega)]
      exact ih (i + 1) (by omega) (by omega)
    · rw [if_neg (by omega)]

theorem eqS_eq {x : List Sm} (hx : x.length ≤ 1048577) {k : Nat} (hk : x.length < k) : laws_eqSampleS.f k x x = some true := by
  unfold laws_eqSampleS.f
  rw [if_pos rfl]
  exact eqS_l0 x hx k 0 (Nat.zero_le _) (by omega)

theorem sz_eq (x : List LSm) (hm : x.length ≤ maxLen) : laws_szSampleS.f x 1048576 = some (if x.length ≤ 1048576 then 1048576 - (x.length : Int) else -1) := by
  unfold laws_szSampleS.f
  unfold maxLen at hm
  rw [w64 (by omega) (by omega)]
  by_cases h : x.length ≤ 1048576
  · rw [if_neg (by omega), if_pos h]
  · rw [if_pos (by omega), if_neg h]

theorem FnExactJitterOf : ∀ (l0 : List S40), l0.length ≤ maxLen → ∃ k, laws_FnExactJitterOf.f k l0 = some true := by
  intro x hm
  refine ⟨x.length + 1 + 1, ?_⟩
  unfold laws_FnExactJitterOf.f
  rw [sz_eq x hm]; simp only [Option.bind_some]
  by_cases h : x.length ≤ 1048576
  · have hl : (x.map cv).length = x.length := List.length_map _
    rw [if_pos h, if_neg (by omega), to_eq h (by omega)]
    simp only [Option.bind_some]
    rw [sJit_eq (by omega), iJit_eq (by omega)]
    simp only [Option.bind_some]
    rw [if_pos (by trivial), eqS_eq (by omega) (by omega)]
    rfl
  · rw [if_neg h, if_pos (by omega)]

end Go.Proofs.Ytllidfbdmmgoiaa.Pure
