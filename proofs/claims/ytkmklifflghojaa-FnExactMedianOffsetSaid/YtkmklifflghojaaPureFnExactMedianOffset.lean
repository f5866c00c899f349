/- The program's MedianOffset returns what the reference's returns, for all samples, and leaves its argument as it was. For every input; no condition. -/
import Derived.Test.YtkmklifflghojaaPAllx13
import Derived.Test.YtkmklifflghojaaBase
namespace Go.Proofs.Ytkmklifflghojaa.Pure
open Go.RowKit Go.Proofs.Ytkmklifflghojaa.PAll Go.Proofs.YtkmklifflghojaaW.PrintWords Go.Proofs.YtkmklifflghojaaW.PrintLast Go.Proofs.YtkmklifflghojaaW.PrintMore Go.Proofs.Ytkmklifflghojaa.Base
set_option linter.unusedVariables false
set_option linter.unusedSimpArgs false

abbrev Sm := S32

theorem wsucc {i : Nat} (h : i < 1152921504606846976) : wrap64 ((i : Int) + 1) = ((i + 1 : Nat) : Int) := by
  rw [w64 (by omega) (by omega)]; omega

theorem rdM {l : List Sm} {i : Nat} (h : i < l.length) : rd_T32 l (i : Int) = l[i] := by
  unfold rd_T32
  rw [Int.toNat_natCast, List.getD_eq_getElem?_getD, List.getElem?_eq_getElem h]; rfl

/-- Valid samples. -/
def vls (l : List Sm) : Bool := smpsOk (-1) l && decide (1 ≤ l.length ∧ l.length ≤ 8)
theorem iV_eq (l : List Sm) : impl_ValidSamples.f l = some (vls l) := rfl
theorem sV_eq (l : List Sm) : spec_validSamples.f l = some (vls l) := rfl

theorem vls_iff (l : List Sm) : vls l = true ↔ smpsOk (-1) l = true ∧ 1 ≤ l.length ∧ l.length ≤ 8 := by
  unfold vls; rw [Bool.and_eq_true, decide_eq_true_eq]

theorem smps_cons (p : Int) (s : Sm) (l : List Sm) : smpsOk p (s :: l) = true ↔ ((-1000000 ≤ s.f0 ∧ s.f0 ≤ 1000000) ∧ (0 ≤ s.f1 ∧ s.f1 ≤ 1000000) ∧ (0 ≤ s.f2 ∧ s.f2 ≤ 3786479999) ∧ p < s.f2) ∧ smpsOk s.f2 l = true := by
  rw [smpsOk.eq_2]
  unfold smpOk
  simp only [Bool.and_eq_true, decide_eq_true_eq]

theorem smps_rng : ∀ (l : List Sm) (p : Int), smpsOk p l = true → ∀ s ∈ l, (-1000000 ≤ s.f0 ∧ s.f0 ≤ 1000000) ∧ (0 ≤ s.f1 ∧ s.f1 ≤ 1000000) ∧ (0 ≤ s.f2 ∧ s.f2 ≤ 3786479999) ∧ p < s.f2
  | [], _, _, _, hs => by cases hs
  | t :: l, p, h, s, hs => by
    obtain ⟨h1, h2⟩ := (smps_cons p t l).1 h
    cases hs with
    | head => exact h1
    | tail _ hs =>
      obtain ⟨a, b, c, d⟩ := smps_rng l t.f2 h2 s hs
      exact ⟨a, b, c, by omega⟩

/-- One element moves down to its place. -/
def sink : Nat → List Int → List Int
  | 0, x => x
  | j + 1, x => if rd x ((j + 1 : Nat) : Int) < rd x (j : Int) then sink j ((x.set (j + 1) (rd x (j : Int))).set j (rd x ((j + 1 : Nat) : Int))) else x

theorem sink_len : ∀ (j : Nat) (x : List Int), (sink j x).length = x.length
  | 0, x => rfl
  | j + 1, x => by
    unfold sink
    split
    · rw [sink_len j, List.length_set, List.length_set]
    · rfl

theorem rdI {l : List Int} {i : Nat} (h : i < l.length) : rd l (i : Int) = l[i] := by
  unfold rd
  rw [Int.toNat_natCast, List.getD_eq_getElem?_getD, List.getElem?_eq_getElem h]; rfl

theorem rd_app {a b : List Int} {i : Nat} (h : i < a.length) : rd (a ++ b) (i : Int) = rd a (i : Int) := by
  unfold rd
  rw [Int.toNat_natCast, List.getD_eq_getElem?_getD, List.getD_eq_getElem?_getD, List.getElem?_append_left h]

theorem sink_app : ∀ (j : Nat) (a b : List Int), j < a.length → sink j (a ++ b) = sink j a ++ b
  | 0, a, b, _ => rfl
  | j + 1, a, b, h => by
    unfold sink
    rw [rd_app h, rd_app (show j < a.length by omega)]
    split
    · rw [List.set_append_left _ _ h, List.set_append_left _ _ (by rw [List.length_set]; omega), sink_app j _ b (by rw [List.length_set, List.length_set]; omega)]
    · rfl

/-- Put a number into descending ones. -/
def insR (v : Int) : List Int → List Int
  | [] => [v]
  | u :: t => if v < u then u :: insR v t else v :: u :: t

theorem sink_ins (v : Int) : ∀ t : List Int, sink t.length (t.reverse ++ [v]) = (insR v t).reverse
  | [] => rfl
  | u :: t => by
    have hl : (t.reverse ++ [u]).length = t.length + 1 := by simp
    have e1 : rd (t.reverse ++ [u] ++ [v]) ((t.length + 1 : Nat) : Int) = v := by
      unfold rd
      rw [Int.toNat_natCast, List.getD_eq_getElem?_getD, List.getElem?_append_right (by omega), hl, Nat.sub_self]; rfl
    have e2 : rd (t.reverse ++ [u] ++ [v]) (t.length : Int) = u := by
      rw [rd_app (by omega)]
      unfold rd
      rw [Int.toNat_natCast, List.getD_eq_getElem?_getD, List.getElem?_append_right (by simp), List.length_reverse, Nat.sub_self]; rfl
    rw [List.reverse_cons, List.length_cons, sink.eq_2, e1, e2]
    unfold insR
    by_cases h : v < u
    · rw [if_pos h, if_pos h]
      have e3 : ((t.reverse ++ [u] ++ [v]).set (t.length + 1) u).set t.length v = (t.reverse ++ [v]) ++ [u] := by
        rw [List.set_append_right _ _ (by omega), hl, Nat.sub_self]
        show ((t.reverse ++ [u]) ++ [u]).set t.length v = _
        rw [List.set_append_left _ _ (by omega), List.set_append_right _ _ (by simp), List.length_reverse, Nat.sub_self]
        rfl
      rw [e3, sink_app _ _ _ (by simp), sink_ins v t, List.reverse_cons]
    · rw [if_neg h, if_neg h]
      simp

/-- The numbers in descending order. -/
def isr : List Int → List Int → List Int
  | a, [] => a
  | a, v :: r => isr (insR v a) r

theorem insR_len (v : Int) : ∀ t : List Int, (insR v t).length = t.length + 1
  | [] => rfl
  | u :: t => by
    unfold insR
    split
    · rw [List.length_cons, insR_len v t, List.length_cons]
    · rfl

theorem isr_len : ∀ (r a : List Int), (isr a r).length = a.length + r.length
  | [], a => rfl
  | v :: r, a => by unfold isr; rw [isr_len r, insR_len, List.length_cons]; omega

theorem insR_perm (v : Int) : ∀ t : List Int, (insR v t).Perm (v :: t)
  | [] => List.Perm.refl _
  | u :: t => by
    unfold insR
    split
    · exact ((insR_perm v t).cons u).trans (List.Perm.swap v u t)
    · exact List.Perm.refl _

theorem isr_perm : ∀ (r a : List Int), (isr a r).Perm (a ++ r)
  | [], a => by rw [List.append_nil]; exact List.Perm.refl _
  | v :: r, a => by
    unfold isr
    refine (isr_perm r (insR v a)).trans (((insR_perm v a).append_right r).trans ?_)
    rw [List.cons_append]
    exact List.perm_middle.symm

/-- Descending. -/
def Desc (l : List Int) : Prop := l.Pairwise (fun a b => b ≤ a)

theorem insR_mem {v x : Int} {t : List Int} (h : x ∈ insR v t) : x = v ∨ x ∈ t := by
  have := (insR_perm v t).mem_iff.1 h
  exact List.mem_cons.1 this

theorem insR_desc (v : Int) : ∀ t : List Int, Desc t → Desc (insR v t)
  | [], _ => List.pairwise_singleton _ _
  | u :: t, h => by
    obtain ⟨h1, h2⟩ := List.pairwise_cons.1 h
    unfold insR
    by_cases hc : v < u
    · rw [if_pos hc]
      refine List.pairwise_cons.2 ⟨fun x hx => ?_, insR_desc v t h2⟩
      rcases insR_mem hx with e | e
      · omega
      · exact h1 x e
    · rw [if_neg hc]
      refine List.pairwise_cons.2 ⟨fun x hx => ?_, h⟩
      rcases List.mem_cons.1 hx with e | e
      · omega
      · have := h1 x e; omega

theorem isr_desc : ∀ (r a : List Int), Desc a → Desc (isr a r)
  | [], _, h => h
  | v :: r, a, h => by unfold isr; exact isr_desc r _ (insR_desc v a h)

theorem less_eq (a b : Int) : cmp_Less_int.f a b = some (decide (a < b)) := by
  unfold cmp_Less_int.f cmp_isNaN_int.f
  simp only [Option.bind_some]
  rw [if_neg (by simp)]

/-- All elements from place i on sink to their places. -/
def srtA : Nat → Nat → List Int → List Int
  | 0, _, x => x
  | d + 1, i, x => srtA d (i + 1) (sink i x)

theorem srtA_isr : ∀ (r t : List Int), srtA r.length t.length (t.reverse ++ r) = (isr t r).reverse
  | [], t => by rw [List.append_nil]; rfl
  | v :: r, t => by
    have e : t.reverse ++ v :: r = (t.reverse ++ [v]) ++ r := by simp
    rw [List.length_cons, srtA, e, sink_app _ _ _ (by simp), sink_ins]
    have h := srtA_isr r (insR v t)
    rw [insR_len] at h
    exact h

theorem iIns_l1 (n i : Nat) (hn : n ≤ 100) (hi : i ≤ 100) (R : List Int) (K : Nat) : ∀ (j : Nat) (x : List Int), x.length = n → j < n →
    (∀ k, K < k → slices_insertionSortOrdered_int.l0 k (sink j x) 0 (n : Int) ((i + 1 : Nat) : Int) = some R) →
    ∀ k, K + j + 1 < k → slices_insertionSortOrdered_int.l1 k x 0 (n : Int) (i : Int) (j : Int) = some R := by
  intro j
  induction j with
  | zero =>
    intro x hx hj h k hk
    obtain ⟨k, rfl⟩ : ∃ m, k = m + 1 := ⟨k - 1, by omega⟩
    simp only [slices_insertionSortOrdered_int.l1]
    rw [if_neg (by omega), wsucc (by omega)]
    exact h k (by omega)
  | succ j ih =>
    intro x hx hj h k hk
    obtain ⟨k, rfl⟩ : ∃ m, k = m + 1 := ⟨k - 1, by omega⟩
    have e : wrap64 (((j + 1 : Nat) : Int) - 1) = (j : Int) := by rw [w64 (by omega) (by omega)]; omega
    simp only [slices_insertionSortOrdered_int.l1]
    rw [e, if_pos (by omega), if_pos (by omega), if_pos (by omega), if_pos (by omega), if_pos (by omega), less_eq]
    simp only [Option.bind_some]
    by_cases hc : rd x ((j + 1 : Nat) : Int) < rd x (j : Int)
    · rw [if_pos (decide_eq_true hc), Int.toNat_natCast, Int.toNat_natCast]
      refine ih _ (by rw [List.length_set, List.length_set]; exact hx) (by omega) ?_ k (by omega)
      rw [sink.eq_2, if_pos hc] at h
      exact h
    · rw [if_neg (by simpa using hc), wsucc (by omega)]
      rw [sink.eq_2, if_neg hc] at h
      exact h k (by omega)

theorem iIns_l0 (n : Nat) (hn : n ≤ 100) : ∀ (d i : Nat) (x : List Int), x.length = n → i + d = n →
    ∀ k, d * (n + 2) < k → slices_insertionSortOrdered_int.l0 k x 0 (n : Int) (i : Int) = some (srtA d i x) := by
  intro d
  induction d with
  | zero =>
    intro i x hx hi k hk
    obtain ⟨k, rfl⟩ : ∃ m, k = m + 1 := ⟨k - 1, by omega⟩
    simp only [slices_insertionSortOrdered_int.l0]
    rw [if_neg (by omega)]
    rfl
  | succ d ih =>
    intro i x hx hi k hk
    have e : (d + 1) * (n + 2) = d * (n + 2) + n + 2 := by rw [Nat.add_mul]; omega
    obtain ⟨k, rfl⟩ : ∃ m, k = m + 1 := ⟨k - 1, by omega⟩
    simp only [slices_insertionSortOrdered_int.l0]
    rw [if_pos (by omega)]
    exact iIns_l1 n i hn (by omega) _ (d * (n + 2)) i x hx (by omega) (ih (i + 1) (sink i x) (by rw [sink_len]; exact hx) (by omega)) k (by omega)

theorem iIns_eq {l : List Int} (h1 : 1 ≤ l.length) (hn : l.length ≤ 12) {k : Nat} (hk : 200 < k) :
    slices_insertionSortOrdered_int.f k l 0 (l.length : Int) = some (isr [] l).reverse := by
  unfold slices_insertionSortOrdered_int.f
  cases l with
  | nil => simp at h1
  | cons a r =>
    have h := iIns_l0 (a :: r).length (by omega) r.length 1 (a :: r) rfl (by rw [List.length_cons]; omega) k (by
      have : r.length * ((a :: r).length + 2) ≤ 11 * 14 := Nat.mul_le_mul (by rw [List.length_cons] at hn; omega) (by omega)
      omega)
    have h2 := srtA_isr r [a]
    rw [show wrap64 (0 + 1) = ((1 : Nat) : Int) from by rw [w64 (by omega) (by omega)]; rfl, h]
    exact congrArg some h2

set_option maxRecDepth 100000 in
theorem len_ok {a : Int} (h : 0 ≤ a ∧ a ≤ 12) (k : Nat) (hk : 1 < k) : ∃ v, bits_Len.f k (IntKind.u64.wrap a) = some v := by
  obtain ⟨k, rfl⟩ : ∃ m, k = m + 1 := ⟨k - 1, by omega⟩
  have e : IntKind.u64.wrap a = a := by
    rw [IntKind.wrap_u64]; omega
  rw [e]
  unfold bits_Len.f bits_Len64.f
  rw [if_neg (by omega), bits_Len64.j0.eq_2, if_neg (by omega), if_neg (by omega), if_pos (by omega), if_pos (by omega)]
  exact ⟨_, rfl⟩

theorem iSort_eq {l : List Int} (h1 : 1 ≤ l.length) (hn : l.length ≤ 12) {k : Nat} (hk : 210 < k) :
    slices_Sort_int_int.f k l = some (isr [] l).reverse := by
  obtain ⟨v, hv⟩ := len_ok (a := (l.length : Int)) (by omega) k (by omega)
  unfold slices_Sort_int_int.f
  rw [hv]; simp only [Option.bind_some]
  obtain ⟨k, rfl⟩ : ∃ m, k = m + 2 := ⟨k - 2, by omega⟩
  simp only [slices_pdqsortOrdered_int.f, slices_pdqsortOrdered_int.l0]
  rw [w64 (x := (l.length : Int) - 0) (by omega) (by omega), if_pos (by omega), iIns_eq h1 hn (by omega)]
  rfl

theorem sSort_l1 (x0 : List Int) (i : Nat) (hi : i ≤ 100) (R : List Int) (K : Nat) : ∀ (j : Nat) (y : List Int), y.length ≤ 100 → j < y.length →
    (∀ k, K < k → spec_sorted.l0 k x0 (sink j y) ((i + 1 : Nat) : Int) = some R) →
    ∀ k, K + 2 * j + 2 < k → spec_sorted.l1 k x0 y (i : Int) (j : Int) = some R := by
  intro j
  induction j with
  | zero =>
    intro y hy hj h k hk
    obtain ⟨k, rfl⟩ : ∃ m, k = m + 2 := ⟨k - 2, by omega⟩
    simp only [spec_sorted.l1, spec_sorted.j2]
    rw [if_neg (by omega), if_neg (by decide), wsucc (by omega)]
    exact h k (by omega)
  | succ j ih =>
    intro y hy hj h k hk
    obtain ⟨k, rfl⟩ : ∃ m, k = m + 2 := ⟨k - 2, by omega⟩
    have e : wrap64 (((j + 1 : Nat) : Int) - 1) = (j : Int) := by rw [w64 (by omega) (by omega)]; omega
    simp only [spec_sorted.l1, spec_sorted.j2]
    rw [e, if_pos (by omega), if_pos (by omega), if_pos (by omega), if_pos (by omega), if_pos (by omega)]
    by_cases hc : rd y ((j + 1 : Nat) : Int) < rd y (j : Int)
    · rw [decide_eq_true hc, if_pos (by trivial), if_pos (by omega), if_pos (by omega), if_pos (by omega), if_pos (by omega), Int.toNat_natCast, Int.toNat_natCast]
      refine ih _ (by rw [List.length_set, List.length_set]; exact hy) (by rw [List.length_set, List.length_set]; omega) ?_ k (by omega)
      rw [sink.eq_2, if_pos hc] at h
      exact h
    · rw [decide_eq_false hc, if_neg (by decide), wsucc (by omega)]
      rw [sink.eq_2, if_neg hc] at h
      exact h k (by omega)

theorem sSort_l0 (x0 : List Int) (hn : x0.length ≤ 12) : ∀ (d i : Nat) (t : List Int), t.length = i → i + d = x0.length →
    ∀ k, d * 40 < k → spec_sorted.l0 k x0 t.reverse (i : Int) = some (isr t (x0.drop i)).reverse := by
  intro d
  induction d with
  | zero =>
    intro i t ht hi k hk
    obtain ⟨k, rfl⟩ : ∃ m, k = m + 1 := ⟨k - 1, by omega⟩
    simp only [spec_sorted.l0]
    rw [if_neg (by omega), show i = x0.length by omega, List.drop_length]
    rfl
  | succ d ih =>
    intro i t ht hi k hk
    obtain ⟨k, rfl⟩ : ∃ m, k = m + 1 := ⟨k - 1, by omega⟩
    have hlt : i < x0.length := by omega
    have hl : (t.reverse ++ [x0[i]]).length = i + 1 := by simp [ht]
    have e : wrap64 (((t.reverse ++ [x0[i]]).length : Int) - 1) = (i : Int) := by rw [hl, w64 (by omega) (by omega)]; omega
    simp only [spec_sorted.l0]
    rw [if_pos (by omega), if_pos (by omega), if_pos (by rw [List.length_reverse]; omega), rdI hlt]
    simp only [Option.bind_some]
    rw [e]
    refine sSort_l1 x0 i (by omega) _ (d * 40) i _ (by omega) (by omega) ?_ k (by omega)
    have hsk : sink i (t.reverse ++ [x0[i]]) = (insR x0[i] t).reverse := by
      have h := sink_ins x0[i] t
      rw [ht] at h; exact h
    rw [hsk]
    intro k' hk'
    rw [ih (i + 1) (insR x0[i] t) (by rw [insR_len, ht]) (by omega) k' hk', List.drop_eq_getElem_cons hlt]
    rfl

theorem sSort_eq {l : List Int} (hn : l.length ≤ 12) {k : Nat} (hk : 480 < k) : spec_sorted.f k l = some (isr [] l).reverse := by
  unfold spec_sorted.f
  have h := sSort_l0 l hn l.length 0 [] rfl (by omega) k (by omega)
  rw [List.drop_zero] at h
  exact h

/-- The offsets. -/
def offs (l : List Sm) : List Int := l.map (fun s => s.f0)
/-- The one in the middle. -/
def MO (l : List Sm) : Int := if vls l = true then rd (isr [] (offs l)).reverse (((l.length - 1) / 2 : Nat) : Int) else 0

theorem mid_eq {n : Nat} (h1 : 1 ≤ n) (h8 : n ≤ 8) : wrap64 (Int.tdiv (wrap64 ((n : Int) - 1)) 2) = (((n - 1) / 2 : Nat) : Int) := by
  rw [w64 (x := (n : Int) - 1) (by omega) (by omega), tdiv_nn (by omega), w64 (by omega) (by omega)]; omega

theorem iMed_l0 (l : List Sm) (h1 : 1 ≤ l.length) (h8 : l.length ≤ 8) : ∀ (d i : Nat), i + d = l.length → ∀ k, 250 + d < k →
    impl_MedianOffset.l0 k (offs (l.take i)) l (l.length : Int) (i : Int) = some (rd (isr [] (offs l)).reverse (((l.length - 1) / 2 : Nat) : Int)) := by
  intro d
  induction d with
  | zero =>
    intro i hi k hk
    obtain ⟨k, rfl⟩ : ∃ m, k = m + 1 := ⟨k - 1, by omega⟩
    simp only [impl_MedianOffset.l0]
    have hol : (offs l).length = l.length := List.length_map _
    rw [if_neg (by omega), show i = l.length by omega, List.take_length, iSort_eq (by omega) (by omega) (by omega)]
    simp only [Option.bind_some]
    rw [hol, mid_eq h1 h8, if_pos (by omega), if_pos (by omega)]
  | succ d ih =>
    intro i hi k hk
    obtain ⟨k, rfl⟩ : ∃ m, k = m + 1 := ⟨k - 1, by omega⟩
    have hlt : i < l.length := by omega
    simp only [impl_MedianOffset.l0]
    have hol : (offs (l.take i)).length = i := by unfold offs; rw [List.length_map, List.length_take]; omega
    rw [if_pos (by omega), if_pos (by omega), if_pos (by omega), if_pos (by omega), rdM hlt, wsucc (by omega)]
    have e : offs (l.take i) ++ [l[i].f0] = offs (l.take (i + 1)) := by
      unfold offs
      rw [List.take_succ_eq_append_getElem hlt, List.map_append]; rfl
    rw [e]
    exact ih (i + 1) (by omega) k (by omega)

theorem iMed_eq {l : List Sm} {k : Nat} (hk : 270 < k) : impl_MedianOffset.f k l = some (MO l) := by
  unfold impl_MedianOffset.f MO
  rw [iV_eq]; simp only [Option.bind_some]
  by_cases hv : vls l = true
  · obtain ⟨_, h1, h8⟩ := (vls_iff l).1 hv
    rw [if_pos hv, if_pos hv]
    exact iMed_l0 l h1 h8 l.length 0 (by omega) k (by omega)
  · rw [if_neg hv, if_neg hv]

theorem sMed_l0 (l : List Sm) (h1 : 1 ≤ l.length) (h8 : l.length ≤ 8) : ∀ (d i : Nat), i + d = l.length → ∀ k, 490 + d < k →
    spec_MedianOffset.l0 k l (offs (l.take i)) (i : Int) = some (rd (isr [] (offs l)).reverse (((l.length - 1) / 2 : Nat) : Int)) := by
  intro d
  induction d with
  | zero =>
    intro i hi k hk
    obtain ⟨k, rfl⟩ : ∃ m, k = m + 1 := ⟨k - 1, by omega⟩
    simp only [spec_MedianOffset.l0]
    have hol : (offs l).length = l.length := List.length_map _
    have hsl : ((isr [] (offs l)).reverse).length = l.length := by rw [List.length_reverse, isr_len, hol]; simp
    rw [if_neg (by omega), show i = l.length by omega, List.take_length, sSort_eq (by omega) (by omega)]
    simp only [Option.bind_some]
    rw [hol, hsl, mid_eq h1 h8, if_pos (by omega), if_pos (by omega)]
  | succ d ih =>
    intro i hi k hk
    obtain ⟨k, rfl⟩ : ∃ m, k = m + 1 := ⟨k - 1, by omega⟩
    have hlt : i < l.length := by omega
    simp only [spec_MedianOffset.l0]
    have hol : (offs (l.take i)).length = i := by unfold offs; rw [List.length_map, List.length_take]; omega
    rw [if_pos (by omega), if_pos (by omega), if_pos (by omega), rdM hlt, wsucc (by omega)]
    have e : offs (l.take i) ++ [l[i].f0] = offs (l.take (i + 1)) := by
      unfold offs
      rw [List.take_succ_eq_append_getElem hlt, List.map_append]; rfl
    rw [e]
    exact ih (i + 1) (by omega) k (by omega)

theorem sMed_eq {l : List Sm} {k : Nat} (hk : 500 < k) : spec_MedianOffset.f k l = some (MO l) := by
  unfold spec_MedianOffset.f MO
  rw [sV_eq]; simp only [Option.bind_some]
  by_cases hv : vls l = true
  · obtain ⟨_, h1, h8⟩ := (vls_iff l).1 hv
    rw [if_pos hv, if_pos hv]
    exact sMed_l0 l h1 h8 l.length 0 (by omega) k (by omega)
  · rw [if_neg hv, if_neg hv]

abbrev LSm := S56
def cv (s : LSm) : Sm := ⟨s.f0, s.f1, s.f2⟩

theorem rdL {l : List LSm} {i : Nat} (h : i < l.length) : rd_T56 l (i : Int) = l[i] := by
  unfold rd_T56
  rw [Int.toNat_natCast, List.getD_eq_getElem?_getD, List.getElem?_eq_getElem h]; rfl

theorem to_l0 (x : List LSm) (hx : x.length ≤ 1048576) : ∀ (k i : Nat) (acc : List Sm), acc.length = x.length → i ≤ x.length → x.length - i < k →
    laws_toSampleS.l0 k x acc (i : Int) = some (acc.take i ++ (x.drop i).map cv) := by
  intro k
  induction k with
  | zero => intro i _ _ _ hk; omega
  | succ k ih =>
    intro i acc ha hi hk
    simp only [laws_toSampleS.l0]
    by_cases hlt : i < x.length
    · rw [if_pos (by omega), if_pos (by omega), rdL hlt]
      unfold laws_toSample.f
      simp only [Option.bind_some]
      rw [if_pos (by omega), Int.toNat_natCast, wsucc (by omega), ih (i + 1) _ (by rw [List.length_set]; exact ha) (by omega) (by omega)]
      rw [List.drop_eq_getElem_cons hlt, List.map_cons, List.take_succ_eq_append_getElem (by rw [List.length_set]; omega), List.getElem_set_self, List.take_set_of_le (Nat.le_refl i), List.append_assoc]
      rfl
    · have e : i = x.length := by omega
      rw [if_neg (by omega), e, List.drop_length, List.map_nil, List.append_nil, ← ha, List.take_length]

theorem to_eq {x : List LSm} (hx : x.length ≤ 1048576) {k : Nat} (hk : x.length < k) : laws_toSampleS.f k x = some (x.map cv) := by
  unfold laws_toSampleS.f
  rw [if_pos (by omega), if_pos (by omega)]
  have h := to_l0 x hx k 0 (List.replicate ((x.length : Int) : Int).toNat z32) (by rw [List.length_replicate, Int.toNat_natCast]) (Nat.zero_le _) (by omega)
  rw [List.take_zero, List.drop_zero, List.nil_append] at h
  exact h

theorem eqM (a b c : Int) : laws_eqSample.f a b c a b c = some true := by
  unfold laws_eqSample.f
  rw [if_pos rfl, if_pos rfl, if_pos rfl]

theorem eqS_l0 (x : List Sm) (hx : x.length ≤ 1048577) : ∀ (k i : Nat), i ≤ x.length → x.length - i < k → laws_eqSampleS.l0 k x x (i : Int) = some true := by
  intro k
  induction k with
  | zero => intro i _ hk; omega
  | succ k ih =>
    intro i hi hk
    simp only [laws_eqSampleS.l0]
    by_cases hlt : i < x.length
    · rw [if_pos (by omega), if_pos (by omega), if_pos (by omega), eqM]
      simp only [Option.bind_some]
      rw [if_pos (by trivial), wsucc (by omega)]
      exact ih (i + 1) (by omega) (by omega)
    · rw [if_neg (by omega)]

theorem eqS_eq {x : List Sm} (hx : x.length ≤ 1048577) {k : Nat} (hk : x.length < k) : laws_eqSampleS.f k x x = some true := by
  unfold laws_eqSampleS.f
  rw [if_pos rfl]
  exact eqS_l0 x hx k 0 (Nat.zero_le _) (by omega)

theorem sz_eq (x : List LSm) (hm : x.length ≤ maxLen) : laws_szSampleS.f x 1048576 = some (if x.length ≤ 1048576 then 1048576 - (x.length : Int) else -1) := by
  unfold laws_szSampleS.f
  unfold maxLen at hm
  rw [w64 (by omega) (by omega)]
  by_cases h : x.length ≤ 1048576
  · rw [if_neg (by omega), if_pos h]
  · rw [if_pos (by omega), if_neg h]

theorem FnExactMedianOffset : ∀ (l0 : List S56), l0.length ≤ maxLen → ∃ k, laws_FnExactMedianOffset.f k l0 = some true := by
  intro x hm
  refine ⟨x.length + 600, ?_⟩
  unfold laws_FnExactMedianOffset.f
  rw [sz_eq x hm]; simp only [Option.bind_some]
  by_cases h : x.length ≤ 1048576
  · have hl : (x.map cv).length = x.length := List.length_map _
    rw [if_pos h, if_neg (by omega), to_eq h (by omega)]
    simp only [Option.bind_some]
    rw [sMed_eq (by omega), iMed_eq (by omega)]
    simp only [Option.bind_some]
    rw [if_pos (by trivial), eqS_eq (by omega) (by omega)]
    rfl
  · rw [if_neg h, if_pos (by omega)]

end Go.Proofs.Ytkmklifflghojaa.Pure
