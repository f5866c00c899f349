/- The program's WithoutSpikes returns what the reference's returns, for all arguments, leaves its arguments as they were, and shares no memory with them or with another call. For every input; no condition. -/
import Derived.Test.YtkmklifflghojaaPAllx17
import Derived.Test.YtkmklifflghojaaBase
namespace Go.Proofs.Ytkmklifflghojaa.Pure
open Go.RowKit Go.Proofs.Ytkmklifflghojaa.PAll Go.Proofs.YtkmklifflghojaaW.PrintWords Go.Proofs.YtkmklifflghojaaW.PrintLast Go.Proofs.YtkmklifflghojaaW.PrintMore Go.Proofs.Ytkmklifflghojaa.Base
set_option linter.unusedVariables false
set_option linter.unusedSimpArgs false

abbrev Sm := S32

theorem wsucc {i : Nat} (h : i < 1152921504606846976) : wrap64 ((i : Int) + 1) = ((i + 1 : Nat) : Int) := by
  rw [w64 (by omega) (by omega)]; omega

theorem rdM {l : List Sm} {i : Nat} (h : i < l.length) : rd_T32 l (i : Int) = l[i] := by
  unfold rd_T32
  rw [Int.toNat_natCast, List.getD_eq_getElem?_getD, List.getElem?_eq_getElem h]; rfl

/-- Valid samples. -/
def vls (l : List Sm) : Bool := smpsOk (-1) l && decide (1 ≤ l.length ∧ l.length ≤ 8)
theorem iV_eq (l : List Sm) : impl_ValidSamples.f l = some (vls l) := rfl
theorem sV_eq (l : List Sm) : spec_validSamples.f l = some (vls l) := rfl

theorem vls_iff (l : List Sm) : vls l = true ↔ smpsOk (-1) l = true ∧ 1 ≤ l.length ∧ l.length ≤ 8 := by
  unfold vls; rw [Bool.and_eq_true, decide_eq_true_eq]

theorem smps_cons (p : Int) (s : Sm) (l : List Sm) : smpsOk p (s :: l) = true ↔ ((-1000000 ≤ s.f0 ∧ s.f0 ≤ 1000000) ∧ (0 ≤ s.f1 ∧ s.f1 ≤ 1000000) ∧ (0 ≤ s.f2 ∧ s.f2 ≤ 3786479999) ∧ p < s.f2) ∧ smpsOk s.f2 l = true := by
  rw [smpsOk.eq_2]
  unfold smpOk
  simp only [Bool.and_eq_true, decide_eq_true_eq]

theorem smps_rng : ∀ (l : List Sm) (p : Int), smpsOk p l = true → ∀ s ∈ l, (-1000000 ≤ s.f0 ∧ s.f0 ≤ 1000000) ∧ (0 ≤ s.f1 ∧ s.f1 ≤ 1000000) ∧ (0 ≤ s.f2 ∧ s.f2 ≤ 3786479999) ∧ p < s.f2
  | [], _, _, _, hs => by cases hs
  | t :: l, p, h, s, hs => by
    obtain ⟨h1, h2⟩ := (smps_cons p t l).1 h
    cases hs with
    | head => exact h1
    | tail _ hs =>
      obtain ⟨a, b, c, d⟩ := smps_rng l t.f2 h2 s hs
      exact ⟨a, b, c, by omega⟩

/-- The sample with the least delay, of several the last one. -/
def bst : Sm → List Sm → Sm
  | b, [] => b
  | b, s :: l => bst (if s.f1 ≤ b.f1 then s else b) l

theorem bst_mem : ∀ (l : List Sm) (b : Sm), bst b l = b ∨ bst b l ∈ l
  | [], b => Or.inl rfl
  | s :: l, b => by
    unfold bst
    by_cases h : s.f1 ≤ b.f1
    · rw [if_pos h]
      rcases bst_mem l s with e | e
      · rw [e]; exact Or.inr (List.mem_cons_self ..)
      · exact Or.inr (List.mem_cons_of_mem _ e)
    · rw [if_neg h]
      rcases bst_mem l b with e | e
      · exact Or.inl e
      · exact Or.inr (List.mem_cons_of_mem _ e)

theorem sBest_l0 (l : List Sm) (hl : l.length ≤ 1152921504606846975) : ∀ (k i a : Nat) (ha : a < l.length), i ≤ l.length → l.length - i < k →
    ∃ (b : Nat) (hb : b < l.length), spec_bestAt.l0 k l (a : Int) (i : Int) = some (b : Int) ∧ l[b] = bst l[a] (l.drop i) := by
  intro k
  induction k with
  | zero => intro i _ _ _ hk; omega
  | succ k ih =>
    intro i a ha hi hk
    simp only [spec_bestAt.l0]
    by_cases hlt : i < l.length
    · rw [if_pos (by omega), if_pos (by omega), if_pos (by omega), if_pos (by omega), rdM hlt, rdM ha, wsucc (by omega), List.drop_eq_getElem_cons hlt]
      unfold bst
      by_cases hc : l[i].f1 ≤ l[a].f1
      · rw [if_pos hc, if_pos hc]
        exact ih (i + 1) i hlt (by omega) (by omega)
      · rw [if_neg hc, if_neg hc]
        exact ih (i + 1) a ha (by omega) (by omega)
    · have e : i = l.length := by omega
      rw [if_neg (by omega), e, List.drop_length]
      exact ⟨a, ha, rfl, rfl⟩

/-- The best of valid samples. -/
def best : List Sm → Sm
  | [] => z32
  | s :: l => bst s l

theorem best_eq {l : List Sm} (h : 0 < l.length) : best l = bst l[0] (l.drop 1) := by
  cases l with
  | nil => simp at h
  | cons s l => rfl

theorem best_eq0 {l : List Sm} (h : 0 < l.length) : best l = bst l[0] l := by
  cases l with
  | nil => simp at h
  | cons s l =>
    show bst s l = bst s (s :: l)
    conv => rhs; unfold bst
    rw [if_pos (Int.le_refl _)]

theorem best_mem {l : List Sm} (h : 0 < l.length) : best l ∈ l := by
  cases l with
  | nil => simp at h
  | cons s l =>
    show bst s l ∈ s :: l
    rcases bst_mem l s with e | e
    · rw [e]; exact List.mem_cons_self ..
    · exact List.mem_cons_of_mem _ e

theorem sBestAt_eq {l : List Sm} (hl : l.length ≤ 1152921504606846975) (h : 0 < l.length) {k : Nat} (hk : l.length < k) :
    ∃ (b : Nat) (hb : b < l.length), spec_bestAt.f k l = some (b : Int) ∧ l[b] = best l := by
  unfold spec_bestAt.f
  obtain ⟨b, hb, e1, e2⟩ := sBest_l0 l hl k 1 0 h (by omega) (by omega)
  exact ⟨b, hb, e1, by rw [e2, best_eq h]⟩

theorem sBestS_eq {l : List Sm} {k : Nat} (hk : l.length < k) :
    spec_BestSample.f k l = some (if vls l = true then ((best l).f0, (best l).f1, (best l).f2, true) else (0, 0, 0, false)) := by
  unfold spec_BestSample.f
  rw [sV_eq]; simp only [Option.bind_some]
  by_cases hv : vls l = true
  · obtain ⟨_, h1, h8⟩ := (vls_iff l).1 hv
    rw [if_pos hv, if_pos hv]
    obtain ⟨b, hb, e1, e2⟩ := sBestAt_eq (l := l) (by omega) (by omega) hk
    rw [e1]; simp only [Option.bind_some]
    rw [if_pos (by omega), if_pos (by omega), rdM hb, e2]
  · rw [if_neg hv, if_neg hv]

theorem iBest_l0 (l : List Sm) (hl : l.length ≤ 1152921504606846975) : ∀ (k i : Nat) (b : Sm), i ≤ l.length → l.length - i < k →
    impl_BestSample.l0 k l (l.length : Int) (i : Int) b.f0 b.f1 b.f2 = some ((bst b (l.drop i)).f0, (bst b (l.drop i)).f1, (bst b (l.drop i)).f2, true) := by
  intro k
  induction k with
  | zero => intro i _ _ hk; omega
  | succ k ih =>
    intro i b hi hk
    simp only [impl_BestSample.l0]
    by_cases hlt : i < l.length
    · rw [if_pos (by omega), if_pos (by omega), if_pos (by omega), rdM hlt, wsucc (by omega), List.drop_eq_getElem_cons hlt]
      unfold bst
      by_cases hc : l[i].f1 ≤ b.f1
      · rw [if_pos hc, if_pos hc]
        exact ih (i + 1) l[i] (by omega) (by omega)
      · rw [if_neg hc, if_neg hc]
        exact ih (i + 1) b (by omega) (by omega)
    · have e : i = l.length := by omega
      rw [if_neg (by omega), e, List.drop_length]
      rfl

theorem iBestS_eq {l : List Sm} {k : Nat} (hk : l.length < k) :
    impl_BestSample.f k l = some (if vls l = true then ((best l).f0, (best l).f1, (best l).f2, true) else (0, 0, 0, false)) := by
  unfold impl_BestSample.f
  rw [iV_eq]; simp only [Option.bind_some]
  by_cases hv : vls l = true
  · obtain ⟨_, h1, h8⟩ := (vls_iff l).1 hv
    rw [if_pos hv, if_pos hv, if_pos (by omega)]
    have e0 : rd_T32 l 0 = l[0] := rdM (i := 0) (by omega)
    have h := iBest_l0 l (by omega) k 0 l[0] (by omega) (by omega)
    rw [List.drop_zero] at h
    rw [e0, best_eq0 (by omega)]
    exact h
  · rw [if_neg hv, if_neg hv]

/-- The sum of the absolute differences. -/
def ab (x : Int) : Int := if x < 0 then -x else x
def jsum (c : Int) : List Sm → Int
  | [] => 0
  | s :: l => ab (s.f0 - c) + jsum c l

theorem ab_rng {x y : Int} (hx : -1000000 ≤ x ∧ x ≤ 1000000) (hy : -1000000 ≤ y ∧ y ≤ 1000000) : 0 ≤ ab (x - y) ∧ ab (x - y) ≤ 2000000 := by
  unfold ab; split <;> omega

theorem size_eq {x y : Int} (hx : -1000000 ≤ x ∧ x ≤ 1000000) (hy : -1000000 ≤ y ∧ y ≤ 1000000) : spec_size.f (wrap64 (x - y)) = some (ab (x - y)) := by
  unfold spec_size.f ab mx
  rw [w64 (x := x - y) (by omega) (by omega), w64 (by omega) (by omega)]
  congr 1
  by_cases h : x - y < 0
  · rw [if_pos h, if_pos (by omega)]
  · rw [if_neg h]; split <;> omega

theorem apart_eq {x y : Int} (hx : -1000000 ≤ x ∧ x ≤ 1000000) (hy : -1000000 ≤ y ∧ y ≤ 1000000) : impl_apart.f x y = some (ab (x - y)) := by
  unfold impl_apart.f ab mx
  rw [w64 (x := x - y) (by omega) (by omega), w64 (by omega) (by omega)]
  congr 1
  by_cases h : x - y < 0
  · rw [if_pos h, if_pos (by omega)]; omega
  · rw [if_neg h]; split <;> omega

theorem sJit_l0 (l : List Sm) (hl : l.length ≤ 8) (h1 : 0 < l.length) (c : Int) (hc : -1000000 ≤ c ∧ c ≤ 1000000) (hr : ∀ s ∈ l, -1000000 ≤ s.f0 ∧ s.f0 ≤ 1000000) :
    ∀ (k i : Nat) (n : Int), i ≤ l.length → l.length - i < k → 0 ≤ n → n ≤ 2000000 * i →
    spec_JitterOf.l0 k l n c (i : Int) = some (Int.tdiv (n + jsum c (l.drop i)) l.length) := by
  intro k
  induction k with
  | zero => intro i _ _ hk; omega
  | succ k ih =>
    intro i n hi hk h0 hn
    simp only [spec_JitterOf.l0]
    by_cases hlt : i < l.length
    · have hm := hr l[i] (List.getElem_mem hlt)
      have hq := ab_rng hm hc
      rw [if_pos (by omega), if_pos (by omega), rdM hlt, size_eq hm hc]
      simp only [Option.bind_some]
      rw [wsucc (by omega), List.drop_eq_getElem_cons hlt]
      unfold jsum
      generalize ab (l[i].f0 - c) = q at hq ⊢
      rw [w64 (x := n + q) (by omega) (by omega), ih (i + 1) (n + q) (by omega) (by omega) (by omega) (by omega), Int.add_assoc]
    · have e : i = l.length := by omega
      have hd := ediv_rng (a := n) (b := (l.length : Int)) h0 (by omega)
      rw [if_neg (by omega), if_neg (by omega), e, List.drop_length]
      unfold jsum
      rw [Int.add_zero, tdiv_nn h0, w64 (by omega) (by omega)]

theorem iJit_l0 (l : List Sm) (hl : l.length ≤ 8) (h1 : 0 < l.length) (c c1 c2 : Int) (hc : -1000000 ≤ c ∧ c ≤ 1000000) (hr : ∀ s ∈ l, -1000000 ≤ s.f0 ∧ s.f0 ≤ 1000000) :
    ∀ (k i : Nat) (n : Int), i ≤ l.length → l.length - i < k → 0 ≤ n → n ≤ 2000000 * i →
    impl_JitterOf.l0 k l n l (l.length : Int) (i : Int) c c1 c2 = some (Int.tdiv (n + jsum c (l.drop i)) l.length) := by
  intro k
  induction k with
  | zero => intro i _ _ hk; omega
  | succ k ih =>
    intro i n hi hk h0 hn
    simp only [impl_JitterOf.l0]
    by_cases hlt : i < l.length
    · have hm := hr l[i] (List.getElem_mem hlt)
      have hq := ab_rng hm hc
      rw [if_pos (by omega), if_pos (by omega), if_pos (by omega), rdM hlt, apart_eq hm hc]
      simp only [Option.bind_some]
      rw [wsucc (by omega), List.drop_eq_getElem_cons hlt]
      unfold jsum
      generalize ab (l[i].f0 - c) = q at hq ⊢
      rw [w64 (x := n + q) (by omega) (by omega), ih (i + 1) (n + q) (by omega) (by omega) (by omega) (by omega), Int.add_assoc]
    · have e : i = l.length := by omega
      have hd := ediv_rng (a := n) (b := (l.length : Int)) h0 (by omega)
      rw [if_neg (by omega), if_neg (by omega), e, List.drop_length]
      unfold jsum
      rw [Int.add_zero, tdiv_nn h0, w64 (by omega) (by omega)]

/-- The jitter. -/
def jit (l : List Sm) : Int := if vls l = true then Int.tdiv (jsum (best l).f0 l) l.length else -1

theorem vls_rng {l : List Sm} (hv : vls l = true) : ∀ s ∈ l, -1000000 ≤ s.f0 ∧ s.f0 ≤ 1000000 := fun s hs => (smps_rng l (-1) ((vls_iff l).1 hv).1 s hs).1

theorem sJit_eq {l : List Sm} {k : Nat} (hk : l.length < k) : spec_JitterOf.f k l = some (jit l) := by
  unfold spec_JitterOf.f jit
  rw [sV_eq]; simp only [Option.bind_some]
  by_cases hv : vls l = true
  · obtain ⟨_, h1, h8⟩ := (vls_iff l).1 hv
    rw [if_pos hv, if_pos hv]
    obtain ⟨b, hb, e1, e2⟩ := sBestAt_eq (l := l) (by omega) (by omega) hk
    rw [e1]; simp only [Option.bind_some]
    rw [if_pos (by omega), if_pos (by omega), rdM hb, e2]
    have h := sJit_l0 l h8 (by omega) (best l).f0 (vls_rng hv _ (best_mem (by omega))) (vls_rng hv) k 0 0 (by omega) (by omega) (by omega) (by omega)
    rw [List.drop_zero, Int.zero_add] at h
    exact h
  · rw [if_neg hv, if_neg hv]

theorem iJit_eq {l : List Sm} {k : Nat} (hk : l.length < k) : impl_JitterOf.f k l = some (jit l) := by
  unfold impl_JitterOf.f jit
  rw [iBestS_eq hk]; simp only [Option.bind_some]
  by_cases hv : vls l = true
  · obtain ⟨_, h1, h8⟩ := (vls_iff l).1 hv
    rw [if_pos hv, if_pos hv, if_pos rfl]
    have h := iJit_l0 l h8 (by omega) (best l).f0 (best l).f1 (best l).f2 (vls_rng hv _ (best_mem (by omega))) (vls_rng hv) k 0 0 (by omega) (by omega) (by omega) (by omega)
    rw [List.drop_zero, Int.zero_add] at h
    exact h
  · rw [if_neg hv, if_neg hv, if_neg (by decide)]

/-- One element moves down to its place. -/
def sink : Nat → List Int → List Int
  | 0, x => x
  | j + 1, x => if rd x ((j + 1 : Nat) : Int) < rd x (j : Int) then sink j ((x.set (j + 1) (rd x (j : Int))).set j (rd x ((j + 1 : Nat) : Int))) else x

theorem sink_len : ∀ (j : Nat) (x : List Int), (sink j x).length = x.length
  | 0, x => rfl
  | j + 1, x => by
    unfold sink
    split
    · rw [sink_len j, List.length_set, List.length_set]
    · rfl

theorem rdI {l : List Int} {i : Nat} (h : i < l.length) : rd l (i : Int) = l[i] := by
  unfold rd
  rw [Int.toNat_natCast, List.getD_eq_getElem?_getD, List.getElem?_eq_getElem h]; rfl

theorem rd_app {a b : List Int} {i : Nat} (h : i < a.length) : rd (a ++ b) (i : Int) = rd a (i : Int) := by
  unfold rd
  rw [Int.toNat_natCast, List.getD_eq_getElem?_getD, List.getD_eq_getElem?_getD, List.getElem?_append_left h]

theorem sink_app : ∀ (j : Nat) (a b : List Int), j < a.length → sink j (a ++ b) = sink j a ++ b
  | 0, a, b, _ => rfl
  | j + 1, a, b, h => by
    unfold sink
    rw [rd_app h, rd_app (show j < a.length by omega)]
    split
    · rw [List.set_append_left _ _ h, List.set_append_left _ _ (by rw [List.length_set]; omega), sink_app j _ b (by rw [List.length_set, List.length_set]; omega)]
    · rfl

/-- Put a number into descending ones. -/
def insR (v : Int) : List Int → List Int
  | [] => [v]
  | u :: t => if v < u then u :: insR v t else v :: u :: t

theorem sink_ins (v : Int) : ∀ t : List Int, sink t.length (t.reverse ++ [v]) = (insR v t).reverse
  | [] => rfl
  | u :: t => by
    have hl : (t.reverse ++ [u]).length = t.length + 1 := by simp
    have e1 : rd (t.reverse ++ [u] ++ [v]) ((t.length + 1 : Nat) : Int) = v := by
      unfold rd
      rw [Int.toNat_natCast, List.getD_eq_getElem?_getD, List.getElem?_append_right (by omega), hl, Nat.sub_self]; rfl
    have e2 : rd (t.reverse ++ [u] ++ [v]) (t.length : Int) = u := by
      rw [rd_app (by omega)]
      unfold rd
      rw [Int.toNat_natCast, List.getD_eq_getElem?_getD, List.getElem?_append_right (by simp), List.length_reverse, Nat.sub_self]; rfl
    rw [List.reverse_cons, List.length_cons, sink.eq_2, e1, e2]
    unfold insR
    by_cases h : v < u
    · rw [if_pos h, if_pos h]
      have e3 : ((t.reverse ++ [u] ++ [v]).set (t.length + 1) u).set t.length v = (t.reverse ++ [v]) ++ [u] := by
        rw [List.set_append_right _ _ (by omega), hl, Nat.sub_self]
        show ((t.reverse ++ [u]) ++ [u]).set t.length v = _
        rw [List.set_append_left _ _ (by omega), List.set_append_right _ _ (by simp), List.length_reverse, Nat.sub_self]
        rfl
      rw [e3, sink_app _ _ _ (by simp), sink_ins v t, List.reverse_cons]
    · rw [if_neg h, if_neg h]
      simp

/-- The numbers in descending order. -/
def isr : List Int → List Int → List Int
  | a, [] => a
  | a, v :: r => isr (insR v a) r

theorem insR_len (v : Int) : ∀ t : List Int, (insR v t).length = t.length + 1
  | [] => rfl
  | u :: t => by
    unfold insR
    split
    · rw [List.length_cons, insR_len v t, List.length_cons]
    · rfl

theorem isr_len : ∀ (r a : List Int), (isr a r).length = a.length + r.length
  | [], a => rfl
  | v :: r, a => by unfold isr; rw [isr_len r, insR_len, List.length_cons]; omega

theorem insR_perm (v : Int) : ∀ t : List Int, (insR v t).Perm (v :: t)
  | [] => List.Perm.refl _
  | u :: t => by
    unfold insR
    split
    · exact ((insR_perm v t).cons u).trans (List.Perm.swap v u t)
    · exact List.Perm.refl _

theorem isr_perm : ∀ (r a : List Int), (isr a r).Perm (a ++ r)
  | [], a => by rw [List.append_nil]; exact List.Perm.refl _
  | v :: r, a => by
    unfold isr
    refine (isr_perm r (insR v a)).trans (((insR_perm v a).append_right r).trans ?_)
    rw [List.cons_append]
    exact List.perm_middle.symm

/-- Descending. -/
def Desc (l : List Int) : Prop := l.Pairwise (fun a b => b ≤ a)

theorem insR_mem {v x : Int} {t : List Int} (h : x ∈ insR v t) : x = v ∨ x ∈ t := by
  have := (insR_perm v t).mem_iff.1 h
  exact List.mem_cons.1 this

theorem insR_desc (v : Int) : ∀ t : List Int, Desc t → Desc (insR v t)
  | [], _ => List.pairwise_singleton _ _
  | u :: t, h => by
    obtain ⟨h1, h2⟩ := List.pairwise_cons.1 h
    unfold insR
    by_cases hc : v < u
    · rw [if_pos hc]
      refine List.pairwise_cons.2 ⟨fun x hx => ?_, insR_desc v t h2⟩
      rcases insR_mem hx with e | e
      · omega
      · exact h1 x e
    · rw [if_neg hc]
      refine List.pairwise_cons.2 ⟨fun x hx => ?_, h⟩
      rcases List.mem_cons.1 hx with e | e
      · omega
      · have := h1 x e; omega

theorem isr_desc : ∀ (r a : List Int), Desc a → Desc (isr a r)
  | [], _, h => h
  | v :: r, a, h => by unfold isr; exact isr_desc r _ (insR_desc v a h)

theorem less_eq (a b : Int) : cmp_Less_int.f a b = some (decide (a < b)) := by
  unfold cmp_Less_int.f cmp_isNaN_int.f
  simp only [Option.bind_some]
  rw [if_neg (by simp)]

/-- All elements from place i on sink to their places. -/
def srtA : Nat → Nat → List Int → List Int
  | 0, _, x => x
  | d + 1, i, x => srtA d (i + 1) (sink i x)

theorem srtA_isr : ∀ (r t : List Int), srtA r.length t.length (t.reverse ++ r) = (isr t r).reverse
  | [], t => by rw [List.append_nil]; rfl
  | v :: r, t => by
    have e : t.reverse ++ v :: r = (t.reverse ++ [v]) ++ r := by simp
    rw [List.length_cons, srtA, e, sink_app _ _ _ (by simp), sink_ins]
    have h := srtA_isr r (insR v t)
    rw [insR_len] at h
    exact h

theorem iIns_l1 (n i : Nat) (hn : n ≤ 100) (hi : i ≤ 100) (R : List Int) (K : Nat) : ∀ (j : Nat) (x : List Int), x.length = n → j < n →
    (∀ k, K < k → slices_insertionSortOrdered_int.l0 k (sink j x) 0 (n : Int) ((i + 1 : Nat) : Int) = some R) →
    ∀ k, K + j + 1 < k → slices_insertionSortOrdered_int.l1 k x 0 (n : Int) (i : Int) (j : Int) = some R := by
  intro j
  induction j with
  | zero =>
    intro x hx hj h k hk
    obtain ⟨k, rfl⟩ : ∃ m, k = m + 1 := ⟨k - 1, by omega⟩
    simp only [slices_insertionSortOrdered_int.l1]
    rw [if_neg (by omega), wsucc (by omega)]
    exact h k (by omega)
  | succ j ih =>
    intro x hx hj h k hk
    obtain ⟨k, rfl⟩ : ∃ m, k = m + 1 := ⟨k - 1, by omega⟩
    have e : wrap64 (((j + 1 : Nat) : Int) - 1) = (j : Int) := by rw [w64 (by omega) (by omega)]; omega
    simp only [slices_insertionSortOrdered_int.l1]
    rw [e, if_pos (by omega), if_pos (by omega), if_pos (by omega), if_pos (by omega), if_pos (by omega), less_eq]
    simp only [Option.bind_some]
    by_cases hc : rd x ((j + 1 : Nat) : Int) < rd x (j : Int)
    · rw [if_pos (decide_eq_true hc), Int.toNat_natCast, Int.toNat_natCast]
      refine ih _ (by rw [List.length_set, List.length_set]; exact hx) (by omega) ?_ k (by omega)
      rw [sink.eq_2, if_pos hc] at h
      exact h
    · rw [if_neg (by simpa using hc), wsucc (by omega)]
      rw [sink.eq_2, if_neg hc] at h
      exact h k (by omega)

theorem iIns_l0 (n : Nat) (hn : n ≤ 100) : ∀ (d i : Nat) (x : List Int), x.length = n → i + d = n →
    ∀ k, d * (n + 2) < k → slices_insertionSortOrdered_int.l0 k x 0 (n : Int) (i : Int) = some (srtA d i x) := by
  intro d
  induction d with
  | zero =>
    intro i x hx hi k hk
    obtain ⟨k, rfl⟩ : ∃ m, k = m + 1 := ⟨k - 1, by omega⟩
    simp only [slices_insertionSortOrdered_int.l0]
    rw [if_neg (by omega)]
    rfl
  | succ d ih =>
    intro i x hx hi k hk
    have e : (d + 1) * (n + 2) = d * (n + 2) + n + 2 := by rw [Nat.add_mul]; omega
    obtain ⟨k, rfl⟩ : ∃ m, k = m + 1 := ⟨k - 1, by omega⟩
    simp only [slices_insertionSortOrdered_int.l0]
    rw [if_pos (by omega)]
    exact iIns_l1 n i hn (by omega) _ (d * (n + 2)) i x hx (by omega) (ih (i + 1) (sink i x) (by rw [sink_len]; exact hx) (by omega)) k (by omega)

theorem iIns_eq {l : List Int} (h1 : 1 ≤ l.length) (hn : l.length ≤ 12) {k : Nat} (hk : 200 < k) :
    slices_insertionSortOrdered_int.f k l 0 (l.length : Int) = some (isr [] l).reverse := by
  unfold slices_insertionSortOrdered_int.f
  cases l with
  | nil => simp at h1
  | cons a r =>
    have h := iIns_l0 (a :: r).length (by omega) r.length 1 (a :: r) rfl (by rw [List.length_cons]; omega) k (by
      have : r.length * ((a :: r).length + 2) ≤ 11 * 14 := Nat.mul_le_mul (by rw [List.length_cons] at hn; omega) (by omega)
      omega)
    have h2 := srtA_isr r [a]
    rw [show wrap64 (0 + 1) = ((1 : Nat) : Int) from by rw [w64 (by omega) (by omega)]; rfl, h]
    exact congrArg some h2

set_option maxRecDepth 100000 in
theorem len_ok {a : Int} (h : 0 ≤ a ∧ a ≤ 12) (k : Nat) (hk : 1 < k) : ∃ v, bits_Len.f k (IntKind.u64.wrap a) = some v := by
  obtain ⟨k, rfl⟩ : ∃ m, k = m + 1 := ⟨k - 1, by omega⟩
  have e : IntKind.u64.wrap a = a := by
    rw [IntKind.wrap_u64]; omega
  rw [e]
  unfold bits_Len.f bits_Len64.f
  rw [if_neg (by omega), bits_Len64.j0.eq_2, if_neg (by omega), if_neg (by omega), if_pos (by omega), if_pos (by omega)]
  exact ⟨_, rfl⟩

theorem iSort_eq {l : List Int} (h1 : 1 ≤ l.length) (hn : l.length ≤ 12) {k : Nat} (hk : 210 < k) :
    slices_Sort_int_int.f k l = some (isr [] l).reverse := by
  obtain ⟨v, hv⟩ := len_ok (a := (l.length : Int)) (by omega) k (by omega)
  unfold slices_Sort_int_int.f
  rw [hv]; simp only [Option.bind_some]
  obtain ⟨k, rfl⟩ : ∃ m, k = m + 2 := ⟨k - 2, by omega⟩
  simp only [slices_pdqsortOrdered_int.f, slices_pdqsortOrdered_int.l0]
  rw [w64 (x := (l.length : Int) - 0) (by omega) (by omega), if_pos (by omega), iIns_eq h1 hn (by omega)]
  rfl

theorem sSort_l1 (x0 : List Int) (i : Nat) (hi : i ≤ 100) (R : List Int) (K : Nat) : ∀ (j : Nat) (y : List Int), y.length ≤ 100 → j < y.length →
    (∀ k, K < k → spec_sorted.l0 k x0 (sink j y) ((i + 1 : Nat) : Int) = some R) →
    ∀ k, K + 2 * j + 2 < k → spec_sorted.l1 k x0 y (i : Int) (j : Int) = some R := by
  intro j
  induction j with
  | zero =>
    intro y hy hj h k hk
    obtain ⟨k, rfl⟩ : ∃ m, k = m + 2 := ⟨k - 2, by omega⟩
    simp only [spec_sorted.l1, spec_sorted.j2]
    rw [if_neg (by omega), if_neg (by decide), wsucc (by omega)]
    exact h k (by omega)
  | succ j ih =>
    intro y hy hj h k hk
    obtain ⟨k, rfl⟩ : ∃ m, k = m + 2 := ⟨k - 2, by omega⟩
    have e : wrap64 (((j + 1 : Nat) : Int) - 1) = (j : Int) := by rw [w64 (by omega) (by omega)]; omega
    simp only [spec_sorted.l1, spec_sorted.j2]
    rw [e, if_pos (by omega), if_pos (by omega), if_pos (by omega), if_pos (by omega), if_pos (by omega)]
    by_cases hc : rd y ((j + 1 : Nat) : Int) < rd y (j : Int)
    · rw [decide_eq_true hc, if_pos (by trivial), if_pos (by omega), if_pos (by omega), if_pos (by omega), if_pos (by omega), Int.toNat_natCast, Int.toNat_natCast]
      refine ih _ (by rw [List.length_set, List.length_set]; exact hy) (by rw [List.length_set, List.length_set]; omega) ?_ k (by omega)
      rw [sink.eq_2, if_pos hc] at h
      exact h
    · rw [decide_eq_false hc, if_neg (by decide), wsucc (by omega)]
      rw [sink.eq_2, if_neg hc] at h
      exact h k (by omega)

theorem sSort_l0 (x0 : List Int) (hn : x0.length ≤ 12) : ∀ (d i : Nat) (t : List Int), t.length = i → i + d = x0.length →
    ∀ k, d * 40 < k → spec_sorted.l0 k x0 t.reverse (i : Int) = some (isr t (x0.drop i)).reverse := by
  intro d
  induction d with
  | zero =>
    intro i t ht hi k hk
    obtain ⟨k, rfl⟩ : ∃ m, k = m + 1 := ⟨k - 1, by omega⟩
    simp only [spec_sorted.l0]
    rw [if_neg (by omega), show i = x0.length by omega, List.drop_length]
    rfl
  | succ d ih =>
    intro i t ht hi k hk
    obtain ⟨k, rfl⟩ : ∃ m, k = m + 1 := ⟨k - 1, by omega⟩
    have hlt : i < x0.length := by omega
    have hl : (t.reverse ++ [x0[i]]).length = i + 1 := by simp [ht]
    have e : wrap64 (((t.reverse ++ [x0[i]]).length : Int) - 1) = (i : Int) := by rw [hl, w64 (by omega) (by omega)]; omega
    simp only [spec_sorted.l0]
    rw [if_pos (by omega), if_pos (by omega), if_pos (by rw [List.length_reverse]; omega), rdI hlt]
    simp only [Option.bind_some]
    rw [e]
    refine sSort_l1 x0 i (by omega) _ (d * 40) i _ (by omega) (by omega) ?_ k (by omega)
    have hsk : sink i (t.reverse ++ [x0[i]]) = (insR x0[i] t).reverse := by
      have h := sink_ins x0[i] t
      rw [ht] at h; exact h
    rw [hsk]
    intro k' hk'
    rw [ih (i + 1) (insR x0[i] t) (by rw [insR_len, ht]) (by omega) k' hk', List.drop_eq_getElem_cons hlt]
    rfl

theorem sSort_eq {l : List Int} (hn : l.length ≤ 12) {k : Nat} (hk : 480 < k) : spec_sorted.f k l = some (isr [] l).reverse := by
  unfold spec_sorted.f
  have h := sSort_l0 l hn l.length 0 [] rfl (by omega) k (by omega)
  rw [List.drop_zero] at h
  exact h

/-- The offsets. -/
def offs (l : List Sm) : List Int := l.map (fun s => s.f0)
/-- The one in the middle. -/
def MO (l : List Sm) : Int := if vls l = true then rd (isr [] (offs l)).reverse (((l.length - 1) / 2 : Nat) : Int) else 0

theorem mid_eq {n : Nat} (h1 : 1 ≤ n) (h8 : n ≤ 8) : wrap64 (Int.tdiv (wrap64 ((n : Int) - 1)) 2) = (((n - 1) / 2 : Nat) : Int) := by
  rw [w64 (x := (n : Int) - 1) (by omega) (by omega), tdiv_nn (by omega), w64 (by omega) (by omega)]; omega

theorem iMed_l0 (l : List Sm) (h1 : 1 ≤ l.length) (h8 : l.length ≤ 8) : ∀ (d i : Nat), i + d = l.length → ∀ k, 250 + d < k →
    impl_MedianOffset.l0 k (offs (l.take i)) l (l.length : Int) (i : Int) = some (rd (isr [] (offs l)).reverse (((l.length - 1) / 2 : Nat) : Int)) := by
  intro d
  induction d with
  | zero =>
    intro i hi k hk
    obtain ⟨k, rfl⟩ : ∃ m, k = m + 1 := ⟨k - 1, by omega⟩
    simp only [impl_MedianOffset.l0]
    have hol : (offs l).length = l.length := List.length_map _
    rw [if_neg (by omega), show i = l.length by omega, List.take_length, iSort_eq (by omega) (by omega) (by omega)]
    simp only [Option.bind_some]
    rw [hol, mid_eq h1 h8, if_pos (by omega), if_pos (by omega)]
  | succ d ih =>
    intro i hi k hk
    obtain ⟨k, rfl⟩ : ∃ m, k = m + 1 := ⟨k - 1, by omega⟩
    have hlt : i < l.length := by omega
    simp only [impl_MedianOffset.l0]
    have hol : (offs (l.take i)).length = i := by unfold offs; rw [List.length_map, List.length_take]; omega
    rw [if_pos (by omega), if_pos (by omega), if_pos (by omega), if_pos (by omega), rdM hlt, wsucc (by omega)]
    have e : offs (l.take i) ++ [l[i].f0] = offs (l.take (i + 1)) := by
      unfold offs
      rw [List.take_succ_eq_append_getElem hlt, List.map_append]; rfl
    rw [e]
    exact ih (i + 1) (by omega) k (by omega)

theorem iMed_eq {l : List Sm} {k : Nat} (hk : 270 < k) : impl_MedianOffset.f k l = some (MO l) := by
  unfold impl_MedianOffset.f MO
  rw [iV_eq]; simp only [Option.bind_some]
  by_cases hv : vls l = true
  · obtain ⟨_, h1, h8⟩ := (vls_iff l).1 hv
    rw [if_pos hv, if_pos hv]
    exact iMed_l0 l h1 h8 l.length 0 (by omega) k (by omega)
  · rw [if_neg hv, if_neg hv]

theorem sMed_l0 (l : List Sm) (h1 : 1 ≤ l.length) (h8 : l.length ≤ 8) : ∀ (d i : Nat), i + d = l.length → ∀ k, 490 + d < k →
    spec_MedianOffset.l0 k l (offs (l.take i)) (i : Int) = some (rd (isr [] (offs l)).reverse (((l.length - 1) / 2 : Nat) : Int)) := by
  intro d
  induction d with
  | zero =>
    intro i hi k hk
    obtain ⟨k, rfl⟩ : ∃ m, k = m + 1 := ⟨k - 1, by omega⟩
    simp only [spec_MedianOffset.l0]
    have hol : (offs l).length = l.length := List.length_map _
    have hsl : ((isr [] (offs l)).reverse).length = l.length := by rw [List.length_reverse, isr_len, hol]; simp
    rw [if_neg (by omega), show i = l.length by omega, List.take_length, sSort_eq (by omega) (by omega)]
    simp only [Option.bind_some]
    rw [hol, hsl, mid_eq h1 h8, if_pos (by omega), if_pos (by omega)]
  | succ d ih =>
    intro i hi k hk
    obtain ⟨k, rfl⟩ : ∃ m, k = m + 1 := ⟨k - 1, by omega⟩
    have hlt : i < l.length := by omega
    simp only [spec_MedianOffset.l0]
    have hol : (offs (l.take i)).length = i := by unfold offs; rw [List.length_map, List.length_take]; omega
    rw [if_pos (by omega), if_pos (by omega), if_pos (by omega), rdM hlt, wsucc (by omega)]
    have e : offs (l.take i) ++ [l[i].f0] = offs (l.take (i + 1)) := by
      unfold offs
      rw [List.take_succ_eq_append_getElem hlt, List.map_append]; rfl
    rw [e]
    exact ih (i + 1) (by omega) k (by omega)

theorem sMed_eq {l : List Sm} {k : Nat} (hk : 500 < k) : spec_MedianOffset.f k l = some (MO l) := by
  unfold spec_MedianOffset.f MO
  rw [sV_eq]; simp only [Option.bind_some]
  by_cases hv : vls l = true
  · obtain ⟨_, h1, h8⟩ := (vls_iff l).1 hv
    rw [if_pos hv, if_pos hv]
    exact sMed_l0 l h1 h8 l.length 0 (by omega) k (by omega)
  · rw [if_neg hv, if_neg hv]

theorem MO_at {l : List Sm} (hv : vls l = true) : ∃ (t : Nat) (ht : t < (isr [] (offs l)).length), t = l.length - 1 - (l.length - 1) / 2 ∧ MO l = (isr [] (offs l))[t] := by
  obtain ⟨_, h1, h8⟩ := (vls_iff l).1 hv
  have hn : (isr [] (offs l)).length = l.length := by rw [isr_len]; unfold offs; rw [List.length_map]; simp
  refine ⟨l.length - 1 - (l.length - 1) / 2, by omega, rfl, ?_⟩
  unfold MO
  rw [if_pos hv, rdI (by rw [List.length_reverse]; omega), List.getElem_reverse]
  congr 1
  omega

theorem MO_mem {l : List Sm} (hv : vls l = true) : ∃ s ∈ l, s.f0 = MO l := by
  obtain ⟨t, ht, _, e⟩ := MO_at hv
  have hm : (isr [] (offs l))[t] ∈ offs l := by
    have := (isr_perm (offs l) []).mem_iff.1 (List.getElem_mem ht)
    rwa [List.nil_append] at this
  obtain ⟨s, hs, he⟩ := List.mem_map.1 hm
  exact ⟨s, hs, by rw [e]; exact he⟩

abbrev LSm := S56
def cv (s : LSm) : Sm := ⟨s.f0, s.f1, s.f2⟩

theorem rdL {l : List LSm} {i : Nat} (h : i < l.length) : rd_T56 l (i : Int) = l[i] := by
  unfold rd_T56
  rw [Int.toNat_natCast, List.getD_eq_getElem?_getD, List.getElem?_eq_getElem h]; rfl

theorem to_l0 (x : List LSm) (hx : x.length ≤ 1048576) : ∀ (k i : Nat) (acc : List Sm), acc.length = x.length → i ≤ x.length → x.length - i < k →
    laws_toSampleS.l0 k x acc (i : Int) = some (acc.take i ++ (x.drop i).map cv) := by
  intro k
  induction k with
  | zero => intro i _ _ _ hk; omega
  | succ k ih =>
    intro i acc ha hi hk
    simp only [laws_toSampleS.l0]
    by_cases hlt : i < x.length
    · rw [if_pos (by omega), if_pos (by omega), rdL hlt]
      unfold laws_toSample.f
      simp only [Option.bind_some]
      rw [if_pos (by omega), Int.toNat_natCast, wsucc (by omega), ih (i + 1) _ (by rw [List.length_set]; exact ha) (by omega) (by omega)]
      rw [List.drop_eq_getElem_cons hlt, List.map_cons, List.take_succ_eq_append_getElem (by rw [List.length_set]; omega), List.getElem_set_self, List.take_set_of_le (Nat.le_refl i), List.append_assoc]
      rfl
    · have e : i = x.length := by omega
      rw [if_neg (by omega), e, List.drop_length, List.map_nil, List.append_nil, ← ha, List.take_length]

theorem to_eq {x : List LSm} (hx : x.length ≤ 1048576) {k : Nat} (hk : x.length < k) : laws_toSampleS.f k x = some (x.map cv) := by
  unfold laws_toSampleS.f
  rw [if_pos (by omega), if_pos (by omega)]
  have h := to_l0 x hx k 0 (List.replicate ((x.length : Int) : Int).toNat z32) (by rw [List.length_replicate, Int.toNat_natCast]) (Nat.zero_le _) (by omega)
  rw [List.take_zero, List.drop_zero, List.nil_append] at h
  exact h

theorem eqM (a b c : Int) : laws_eqSample.f a b c a b c = some true := by
  unfold laws_eqSample.f
  rw [if_pos rfl, if_pos rfl, if_pos rfl]

theorem eqS_l0 (x : List Sm) (hx : x.length ≤ 1048577) : ∀ (k i : Nat), i ≤ x.length → x.length - i < k → laws_eqSampleS.l0 k x x (i : Int) = some true := by
  intro k
  induction k with
  | zero => intro i _ hk; omega
  | succ k ih =>
    intro i hi hk
    simp only [laws_eqSampleS.l0]
    by_cases hlt : i < x.length
    · rw [if_pos (by omega), if_pos (by omega), if_pos (by omega), eqM]
      simp only [Option.bind_some]
      rw [if_pos (by trivial), wsucc (by omega)]
      exact ih (i + 1) (by omega) (by omega)
    · rw [if_neg (by omega)]

theorem eqS_eq {x : List Sm} (hx : x.length ≤ 1048577) {k : Nat} (hk : x.length < k) : laws_eqSampleS.f k x x = some true := by
  unfold laws_eqSampleS.f
  rw [if_pos rfl]
  exact eqS_l0 x hx k 0 (Nat.zero_le _) (by omega)

theorem sz_eq (x : List LSm) (hm : x.length ≤ maxLen) : laws_szSampleS.f x 1048576 = some (if x.length ≤ 1048576 then 1048576 - (x.length : Int) else -1) := by
  unfold laws_szSampleS.f
  unfold maxLen at hm
  rw [w64 (by omega) (by omega)]
  by_cases h : x.length ≤ 1048576
  · rw [if_neg (by omega), if_pos h]
  · rw [if_pos (by omega), if_neg h]

theorem clone_eq {l : List Sm} (h : l.length ≤ 1048577) : impl_Sample_36.f l = some l := by
  unfold impl_Sample_36.f; rw [if_pos (by omega)]

/-- Three times the jitter and the slack. -/
def lim (l : List Sm) (a : Int) : Int := wrap64 (wrap64 (3 * jit l) + a)
/-- The samples that WithoutSpikes answers. -/
def ws (l : List Sm) (a : Int) : List Sm := if vls l = true ∧ (0 ≤ a ∧ a ≤ 1000000) then nearS (MO l) (lim l a) l else []

theorem near_len (m t : Int) (l : List Sm) : (nearS m t l).length ≤ l.length := List.length_filter_le _ _

theorem ws_len (l : List Sm) (a : Int) : (ws l a).length ≤ l.length := by
  unfold ws
  split
  · exact near_len _ _ _
  · exact Nat.zero_le _

theorem MO_rng {l : List Sm} (hv : vls l = true) : -1000000 ≤ MO l ∧ MO l ≤ 1000000 := by
  obtain ⟨s, hs, he⟩ := MO_mem hv
  rw [← he]; exact vls_rng hv s hs

theorem far_eq {m t : Int} {s : Sm} (hs : -1000000 ≤ s.f0 ∧ s.f0 ≤ 1000000) (hm : -1000000 ≤ m ∧ m ≤ 1000000) : farS m t s = decide (ab (s.f0 - m) > t) := by
  have h := apart_eq hs hm
  unfold impl_apart.f at h
  unfold farS
  rw [Option.some.inj h]

theorem near_cons (m t : Int) (s : Sm) (l : List Sm) (hs : -1000000 ≤ s.f0 ∧ s.f0 ≤ 1000000) (hm : -1000000 ≤ m ∧ m ≤ 1000000) : nearS m t (s :: l) = if ab (s.f0 - m) ≤ t then s :: nearS m t l else nearS m t l := by
  unfold nearS
  rw [List.filter_cons, far_eq hs hm]
  by_cases h : ab (s.f0 - m) ≤ t
  · rw [if_pos h, if_pos (by simp; omega)]
  · rw [if_neg h, if_neg (by simp; omega)]

theorem iWS_eq {l : List Sm} (hl : l.length ≤ 1048577) {k : Nat} (hk : l.length + 500 < k) (a : Int) : impl_WithoutSpikes.f k l a = some (ws l a) := by
  unfold impl_WithoutSpikes.f ws
  rw [iV_eq]; simp only [Option.bind_some]
  by_cases hv : vls l = true
  · rw [if_pos hv, impl_within.eq]
    simp only [Option.bind_some]
    by_cases ha : 0 ≤ a ∧ a ≤ 1000000
    · rw [if_pos (decide_eq_true ha), if_pos ⟨hv, ha⟩, iMed_eq (by omega)]
      simp only [Option.bind_some]
      rw [iJit_eq (by omega)]
      simp only [Option.bind_some]
      rw [clone_eq hl]
      rfl
    · rw [if_neg (by simpa using ha), if_neg (fun h => ha h.2)]
  · rw [if_neg hv, if_neg (fun h => hv h.1)]

theorem sWS_l0 (l : List Sm) (hv : vls l = true) (t : Int) : ∀ (k i : Nat) (acc : List Sm), i ≤ l.length → acc.length ≤ i → l.length - i < k →
    spec_WithoutSpikes.l0 k l acc (MO l) t (i : Int) = some (acc ++ nearS (MO l) t (l.drop i)) := by
  obtain ⟨_, h1, h8⟩ := (vls_iff l).1 hv
  have hm := MO_rng hv
  intro k
  induction k with
  | zero => intro i _ _ _ hk; omega
  | succ k ih =>
    intro i acc hi ha hk
    rw [spec_WithoutSpikes.l0]
    by_cases hlt : i < l.length
    · have hs := vls_rng hv l[i] (List.getElem_mem hlt)
      rw [if_pos (by omega), if_pos (by omega), rdM hlt, size_eq hs hm]
      simp only [Option.bind_some]
      rw [List.drop_eq_getElem_cons hlt, near_cons _ _ _ _ hs hm, wsucc (by omega)]
      by_cases hc : ab (l[i].f0 - MO l) ≤ t
      · rw [if_pos hc, if_pos hc, if_pos (by omega), ih (i + 1) _ (by omega) (by rw [List.length_append, List.length_singleton]; omega) (by omega), List.append_assoc]
        rfl
      · rw [if_neg hc, if_neg hc]
        exact ih (i + 1) acc (by omega) (by omega) (by omega)
    · have e : i = l.length := by omega
      rw [if_neg (by omega), e, List.drop_length]
      unfold nearS
      rw [List.filter_nil, List.append_nil]

theorem sWS_eq {l : List Sm} {k : Nat} (hk : l.length + 510 < k) (a : Int) : spec_WithoutSpikes.f k l a = some (ws l a) := by
  obtain ⟨k, rfl⟩ : ∃ m, k = m + 1 := ⟨k - 1, by omega⟩
  unfold spec_WithoutSpikes.f ws
  simp only [Option.bind_some]
  rw [sV_eq]; simp only [Option.bind_some]
  by_cases hv : vls l = true
  · rw [if_pos hv, spec_inRange.eq]
    simp only [Option.bind_some]
    rw [spec_WithoutSpikes.j0]
    by_cases ha : 0 ≤ a ∧ a ≤ 1000000
    · rw [decide_eq_true ha, if_neg (by decide), if_pos ⟨hv, ha⟩, sMed_eq (by omega)]
      simp only [Option.bind_some]
      rw [sJit_eq (by omega)]
      simp only [Option.bind_some]
      exact sWS_l0 l hv _ k 0 [] (by omega) (by simp) (by omega)
    · rw [decide_eq_false ha, if_pos (by decide), if_neg (fun h => ha h.2)]
  · rw [if_neg hv, spec_WithoutSpikes.j0, if_pos (by trivial), if_neg (fun h => hv h.1)]

/-- Samples of numbers in a row, from m on. -/
def seqM : Int → Nat → List Sm
  | _, 0 => []
  | m, n + 1 => ⟨m, m + 1, m + 2⟩ :: seqM (m + 3) n

theorem seqM_len : ∀ (n : Nat) (m : Int), (seqM m n).length = n
  | 0, m => rfl
  | n + 1, m => by unfold seqM; rw [List.length_cons, seqM_len n]

theorem rdSet {l : List Sm} {i : Nat} (h : i < l.length) (v : Sm) : rd_T32 (l.set i v) (i : Int) = v := by
  rw [rdM (by rw [List.length_set]; exact h), List.getElem_set_self]

theorem markM_l0 : ∀ (d k i : Nat) (x : List Sm) (m : Int), i ≤ x.length → x.length - i = d → d < k → x.length ≤ 1048577 → 0 ≤ m → m + 3 * d ≤ 100000000 →
    laws_markSampleS.l0 k x m (i : Int) = some (m + 3 * d, x.take i ++ seqM m d) := by
  intro d
  induction d with
  | zero =>
    intro k i x m hi hd hk hx h0 h1
    obtain ⟨k, rfl⟩ : ∃ m, k = m + 1 := ⟨k - 1, by omega⟩
    have e : i = x.length := by omega
    rw [laws_markSampleS.l0, if_neg (by omega), e, List.take_length]
    unfold seqM
    rw [List.append_nil, show m + 3 * ((0 : Nat) : Int) = m by omega]
  | succ d ih =>
    intro k i x m hi hd hk hx h0 h1
    obtain ⟨k, rfl⟩ : ∃ m, k = m + 1 := ⟨k - 1, by omega⟩
    have hlt : i < x.length := by omega
    rw [laws_markSampleS.l0, if_pos (by omega), if_pos (by omega)]
    simp only [Option.bind_some, Int.toNat_natCast, rdSet hlt, List.set_set]
    rw [wsucc (by omega), w64 (x := m + 1) (by omega) (by omega), w64 (x := m + 1 + 1) (by omega) (by omega), w64 (x := m + 1 + 1 + 1) (by omega) (by omega)]
    rw [ih k (i + 1) _ (m + 1 + 1 + 1) (by rw [List.length_set]; omega) (by rw [List.length_set]; omega) (by omega) (by rw [List.length_set]; omega) (by omega) (by omega)]
    rw [List.take_succ_eq_append_getElem (by rw [List.length_set]; omega), List.getElem_set_self, List.take_set_of_le (Nat.le_refl i), List.append_assoc]
    rw [show m + 1 + 1 + 1 + 3 * (d : Int) = m + 3 * ((d + 1 : Nat) : Int) by omega, show m + 1 + 1 + 1 = m + 3 by omega, show m + 1 + 1 = m + 2 by omega]
    rfl

theorem markM_eq {x : List Sm} (hx : x.length ≤ 1048577) {k : Nat} (hk : x.length < k) : laws_markSampleS.f k x 1 = some (1 + 3 * (x.length : Int), seqM 1 x.length) := by
  unfold laws_markSampleS.f
  have h := markM_l0 x.length k 0 x 1 (Nat.zero_le _) (by omega) hk hx (by omega) (by omega)
  rw [List.take_zero, List.nil_append] at h
  exact h

theorem heldM_l0 : ∀ (d k i : Nat) (x : List Sm) (q : Int), x.length = i + d → d < k → x.length ≤ 1048577 → 0 ≤ q → q + 3 * d ≤ 100000000 → x.drop i = seqM q d →
    laws_heldSampleS.l0 k x q (i : Int) = some (q + 3 * d) := by
  intro d
  induction d with
  | zero =>
    intro k i x q hl hk hx h0 h1 he
    obtain ⟨k, rfl⟩ : ∃ m, k = m + 1 := ⟨k - 1, by omega⟩
    rw [laws_heldSampleS.l0, if_neg (by omega), show q + 3 * ((0 : Nat) : Int) = q by omega]
  | succ d ih =>
    intro k i x q hl hk hx h0 h1 he
    obtain ⟨k, rfl⟩ : ∃ m, k = m + 1 := ⟨k - 1, by omega⟩
    have hlt : i < x.length := by omega
    rw [List.drop_eq_getElem_cons hlt] at he
    unfold seqM at he
    obtain ⟨e1, e2⟩ := List.cons.inj he
    rw [laws_heldSampleS.l0, if_pos (by omega), if_pos (by omega), rdM hlt, e1, w64 (x := q + 1) (by omega) (by omega), w64 (x := q + 1 + 1) (by omega) (by omega), w64 (x := q + 1 + 1 + 1) (by omega) (by omega), if_pos rfl, if_pos rfl, if_pos (by show q + 2 = q + 1 + 1; omega), wsucc (by omega)]
    rw [ih k (i + 1) x (q + 1 + 1 + 1) (by omega) (by omega) hx (by omega) (by omega) (by rw [e2, show q + 1 + 1 + 1 = q + 3 by omega])]
    congr 1
    omega

theorem heldM_eq {n : Nat} (hn : n ≤ 1048577) {k : Nat} (hk : n < k) : laws_heldSampleS.f k (seqM 1 n) 1 = some (1 + 3 * (n : Int)) := by
  unfold laws_heldSampleS.f
  exact heldM_l0 n k 0 (seqM 1 n) 1 (by rw [seqM_len]; omega) hk (by rw [seqM_len]; omega) (by omega) (by omega) (by rw [List.drop_zero])

theorem FnExactWithoutSpikes : ∀ (l0 : List S56) (a1 : Int), l0.length ≤ maxLen → (Lit.int .i64 a1).wf = true → ∃ k, laws_FnExactWithoutSpikes.f k l0 a1 = some true := by
  intro x a hm _
  refine ⟨x.length + 600 + 1, ?_⟩
  unfold laws_FnExactWithoutSpikes.f
  rw [sz_eq x hm]; simp only [Option.bind_some]
  by_cases h : x.length ≤ 1048576
  · have hl : (x.map cv).length = x.length := List.length_map _
    have hn := ws_len (x.map cv) a
    rw [if_pos h, if_neg (by omega), to_eq h (by omega)]
    simp only [Option.bind_some]
    rw [sWS_eq (by omega), iWS_eq (by omega) (by omega)]
    simp only [Option.bind_some]
    rw [eqS_eq (by omega) (by omega)]
    simp only [Option.bind_some]
    rw [if_pos (by trivial), eqS_eq (by omega) (by omega)]
    simp only [Option.bind_some]
    rw [if_pos (by trivial), markM_eq (by omega) (by omega)]
    simp only [Option.bind_some]
    rw [if_neg (by omega)]
    rw [laws_FnExactWithoutSpikes.j0, if_neg (by decide), markM_eq (by omega) (by omega)]
    simp only [Option.bind_some]
    rw [heldM_eq (by omega) (by omega)]
    simp only [Option.bind_some]
    rw [if_neg (by omega), if_pos (by trivial), to_eq h (by omega)]
    simp only [Option.bind_some]
    rw [iWS_eq (by omega) (by omega)]
    simp only [Option.bind_some]
    rw [eqS_eq (by omega) (by omega)]
    simp only [Option.bind_some]
    rw [if_pos (by trivial), if_neg (by omega), if_pos (by trivial)]
  · rw [if_neg h, if_pos (by omega)]

end Go.Proofs.Ytkmklifflghojaa.Pure
