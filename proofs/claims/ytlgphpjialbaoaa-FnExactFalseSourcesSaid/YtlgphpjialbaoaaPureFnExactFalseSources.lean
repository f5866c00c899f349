/- The program's FalseSources returns what the reference's returns, for all spans, leaves its argument as it was, and shares no memory with it or with another call. For every input; no condition. -/
import Derived.Test.YtlgphpjialbaoaaPAllx11
import Derived.Test.YtlgphpjialbaoaaBase
namespace Go.Proofs.Ytlgphpjialbaoaa.Pure
open Go.RowKit Go.Proofs.Ytlgphpjialbaoaa.PAll Go.Proofs.YtlgphpjialbaoaaW.PrintWords Go.Proofs.YtlgphpjialbaoaaW.PrintLast Go.Proofs.YtlgphpjialbaoaaW.PrintMore Go.Proofs.Ytlgphpjialbaoaa.Base
set_option linter.unusedVariables false
set_option linter.unusedSimpArgs false

abbrev Sp := S26

theorem wsucc {i : Nat} (h : i < 1152921504606846976) : wrap64 ((i : Int) + 1) = ((i + 1 : Nat) : Int) := by
  rw [w64 (by omega) (by omega)]; omega

theorem rdS {l : List Sp} {i : Nat} (h : i < l.length) : rd_T26 l (i : Int) = l[i] := by
  unfold rd_T26
  rw [Int.toNat_natCast, List.getD_eq_getElem?_getD, List.getElem?_eq_getElem h]; rfl

theorem inRange_eq (a b c : Int) : spec_inRange.f a b c = some (decide (b ≤ a ∧ a ≤ c)) := by
  unfold spec_inRange.f
  by_cases h : b ≤ a
  · rw [if_pos h]; simp [h]
  · rw [if_neg h]; simp [h]

theorem within_eq (a b c : Int) : impl_within.f a b c = some (decide (b ≤ a ∧ a ≤ c)) := by
  unfold impl_within.f
  by_cases h : b ≤ a
  · rw [if_pos h]; simp [h]
  · rw [if_neg h]; simp [h]

/-- Valid spans. -/
def okS (s : Sp) : Bool := spanOk s.f0 s.f1
def vld (l : List Sp) : Bool := decide (1 ≤ l.length ∧ l.length ≤ 7) && l.all okS
theorem iValid_eq (l : List Sp) : impl_ValidSpans.f l = some (vld l) := rfl

theorem okS_iff (s : Sp) : okS s = true ↔ -1000000 ≤ s.f0 ∧ s.f0 ≤ 1000000 ∧ s.f0 ≤ s.f1 ∧ s.f1 ≤ 1000000 := by
  unfold okS spanOk; simp

theorem vld_iff (l : List Sp) : vld l = true ↔ (1 ≤ l.length ∧ l.length ≤ 7) ∧ ∀ s ∈ l, okS s = true := by
  unfold vld; rw [Bool.and_eq_true, decide_eq_true_eq, List.all_eq_true]

theorem sSpan_eq (a b : Int) : spec_validSpan.f a b = some (spanOk a b) := by
  unfold spec_validSpan.f spanOk
  simp only [inRange_eq, Option.bind_some]
  by_cases h1 : -1000000 ≤ a <;> by_cases h2 : a ≤ 1000000 <;> by_cases h3 : a ≤ b <;> simp [h1, h2, h3]

theorem sValid_l0 (l : List Sp) (hl : l.length ≤ 1152921504606846975) : ∀ (k i : Nat), i ≤ l.length → l.length - i < k →
    spec_validSpans.l0 k l (i : Int) = some ((l.drop i).all okS && decide (1 ≤ l.length ∧ l.length ≤ 7)) := by
  intro k
  induction k with
  | zero => intro i _ hk; omega
  | succ k ih =>
    intro i hi hk
    simp only [spec_validSpans.l0]
    by_cases hlt : i < l.length
    · rw [if_pos (by omega), if_pos (by omega), rdS hlt, sSpan_eq]
      simp only [Option.bind_some]
      rw [List.drop_eq_getElem_cons hlt, List.all_cons, wsucc (by omega)]
      cases ho : spanOk l[i].f0 l[i].f1 with
      | true => rw [if_pos rfl, ih (i + 1) (by omega) (by omega)]; unfold okS; rw [ho]; rfl
      | false => rw [if_neg (by decide)]; unfold okS; rw [ho]; rfl
    · have e : i = l.length := by omega
      have ed : decide (1 ≤ (l.length : Int) ∧ (l.length : Int) ≤ 7) = decide (1 ≤ l.length ∧ l.length ≤ 7) := by rw [decide_eq_decide]; omega
      rw [if_neg (by omega), inRange_eq, e, List.drop_length, ed]
      rfl

theorem sValid_eq {l : List Sp} (hl : l.length ≤ 1152921504606846975) {k : Nat} (hk : l.length < k) : spec_validSpans.f k l = some (vld l) := by
  unfold spec_validSpans.f vld
  have h := sValid_l0 l hl k 0 (Nat.zero_le _) (by omega)
  rw [List.drop_zero] at h
  rw [show ((0 : Nat) : Int) = 0 from rfl] at h
  rw [h, Bool.and_comm]

/-- How many spans have a number. -/
def hasB (s : Sp) (n : Int) : Bool := decide (s.f0 ≤ n ∧ n ≤ s.f1)
def cnt : List Sp → Int → Int
  | [], _ => 0
  | s :: l, n => (if hasB s n = true then 1 else 0) + cnt l n

theorem cnt_rng : ∀ (l : List Sp) (n : Int), 0 ≤ cnt l n ∧ cnt l n ≤ l.length
  | [], n => ⟨Int.le_refl _, Int.le_refl _⟩
  | s :: l, n => by
    have h := cnt_rng l n
    unfold cnt
    rw [List.length_cons]
    split <;> omega

theorem iHas_eq (a b n : Int) : impl_Span_has.f a b n = some (decide (a ≤ n ∧ n ≤ b)) := by
  unfold impl_Span_has.f
  rw [within_eq]; simp only [Option.bind_some]

theorem iVotes_l0 (l : List Sp) (hl : l.length ≤ 1152921504606846975) (n : Int) : ∀ (k i : Nat) (acc : Int), i ≤ l.length → l.length - i < k → 0 ≤ acc → acc ≤ i →
    impl_votesFor.l0 k n acc l (l.length : Int) (i : Int) = some (acc + cnt (l.drop i) n) := by
  intro k
  induction k with
  | zero => intro i _ _ hk; omega
  | succ k ih =>
    intro i acc hi hk h0 h1
    simp only [impl_votesFor.l0]
    by_cases hlt : i < l.length
    · rw [if_pos (by omega), if_pos (by omega), if_pos (by omega), rdS hlt, iHas_eq]
      simp only [Option.bind_some]
      rw [List.drop_eq_getElem_cons hlt, wsucc (by omega), w64 (x := acc + 1) (by omega) (by omega)]
      unfold cnt
      cases ho : hasB l[i] n with
      | true =>
        have ho' : decide (l[i].f0 ≤ n ∧ n ≤ l[i].f1) = true := ho
        rw [if_pos ho', if_pos rfl, ih (i + 1) (acc + 1) (by omega) (by omega) (by omega) (by omega), Int.add_assoc]
      | false =>
        have ho' : decide (l[i].f0 ≤ n ∧ n ≤ l[i].f1) = false := ho
        rw [if_neg (by rw [ho']; decide), if_neg (by decide), ih (i + 1) acc (by omega) (by omega) (by omega) (by omega), Int.zero_add]
    · have e : i = l.length := by omega
      rw [if_neg (by omega), e, List.drop_length]
      unfold cnt
      rw [Int.add_zero]

theorem iVotes_eq {l : List Sp} (hl : l.length ≤ 1152921504606846975) {k : Nat} (hk : l.length < k) (n : Int) : impl_votesFor.f k l n = some (cnt l n) := by
  unfold impl_votesFor.f
  have h := iVotes_l0 l hl n k 0 0 (Nat.zero_le _) (by omega) (by omega) (by omega)
  rw [List.drop_zero, Int.zero_add] at h
  exact h

theorem toInt_eq (b : Bool) : spec_toInt.f b = some (if b = true then 1 else 0) := by
  unfold spec_toInt.f; cases b <;> rfl

theorem sVotes_l0 (l : List Sp) (hl : l.length ≤ 1152921504606846975) (n : Int) : ∀ (k i : Nat) (acc : Int), i ≤ l.length → l.length - i < k → 0 ≤ acc → acc ≤ i →
    spec_votes.l0 k l n acc (i : Int) = some (acc + cnt (l.drop i) n) := by
  intro k
  induction k with
  | zero => intro i _ _ hk; omega
  | succ k ih =>
    intro i acc hi hk h0 h1
    simp only [spec_votes.l0]
    by_cases hlt : i < l.length
    · rw [if_pos (by omega), if_pos (by omega), rdS hlt, inRange_eq]
      simp only [Option.bind_some]
      rw [toInt_eq]
      simp only [Option.bind_some]
      rw [List.drop_eq_getElem_cons hlt, wsucc (by omega)]
      have e : (if decide (l[i].f0 ≤ n ∧ n ≤ l[i].f1) = true then (1 : Int) else 0) = (if hasB l[i] n = true then 1 else 0) := rfl
      rw [e]
      have hb : 0 ≤ (if hasB l[i] n = true then (1 : Int) else 0) ∧ (if hasB l[i] n = true then (1 : Int) else 0) ≤ 1 := by split <;> omega
      rw [cnt.eq_2]
      generalize (if hasB l[i] n = true then (1 : Int) else 0) = b at hb ⊢
      rw [w64 (x := acc + b) (by omega) (by omega), ih (i + 1) (acc + b) (by omega) (by omega) (by omega) (by omega), Int.add_assoc]
    · have e : i = l.length := by omega
      rw [if_neg (by omega), e, List.drop_length]
      unfold cnt
      rw [Int.add_zero]

theorem sVotes_eq {l : List Sp} (hl : l.length ≤ 1152921504606846975) {k : Nat} (hk : l.length < k) (n : Int) : spec_votes.f k l n = some (cnt l n) := by
  unfold spec_votes.f
  have h := sVotes_l0 l hl n k 0 0 (Nat.zero_le _) (by omega) (by omega) (by omega)
  rw [List.drop_zero, Int.zero_add] at h
  exact h

/-- The greatest number of votes for the Low of a span of a list, and m. -/
def mst (a : List Sp) : List Sp → Int → Int
  | [], m => m
  | s :: l, m => mst a l (mx m (cnt a s.f0))
/-- The program's own: the most votes, and the least Low that has them. -/
def mp (a : List Sp) : List Sp → Int → Int → Int × Int
  | [], m, lo => (m, lo)
  | s :: l, m, lo => if cnt a s.f0 > m then mp a l (cnt a s.f0) s.f0 else if cnt a s.f0 = m ∧ s.f0 < lo then mp a l m s.f0 else mp a l m lo

theorem mp_fst (a : List Sp) : ∀ (l : List Sp) (m lo : Int), (mp a l m lo).1 = mst a l m
  | [], m, lo => rfl
  | s :: l, m, lo => by
    unfold mp mst
    by_cases h : cnt a s.f0 > m
    · rw [if_pos h, mp_fst a l]; congr 1; unfold mx; rw [if_pos (by omega)]
    · have e : mx m (cnt a s.f0) = m := by unfold mx; rw [if_neg (by omega)]
      rw [if_neg h, e]
      split <;> exact mp_fst a l _ _

theorem sMost_l0 (l : List Sp) (hl : l.length ≤ 1152921504606846975) : ∀ (k i : Nat) (m : Int), i ≤ l.length → 2 * l.length - i < k →
    spec_mostVotes.l0 k l m (i : Int) = some (mst l (l.drop i) m) := by
  intro k
  induction k with
  | zero => intro i _ _ hk; omega
  | succ k ih =>
    intro i m hi hk
    simp only [spec_mostVotes.l0]
    by_cases hlt : i < l.length
    · rw [if_pos (by omega), if_pos (by omega), rdS hlt, sVotes_eq hl (by omega)]
      simp only [Option.bind_some]
      rw [wsucc (by omega), ih (i + 1) _ (by omega) (by omega), List.drop_eq_getElem_cons hlt]
      rfl
    · have e : i = l.length := by omega
      rw [if_neg (by omega), e, List.drop_length]
      rfl

theorem sMost_eq {l : List Sp} (hl : l.length ≤ 1152921504606846975) {k : Nat} (hk : 2 * l.length < k) : spec_mostVotes.f k l = some (mst l l 0) := by
  unfold spec_mostVotes.f
  have h := sMost_l0 l hl k 0 0 (Nat.zero_le _) (by omega)
  rw [List.drop_zero] at h
  exact h

theorem iMost_l0 (l : List Sp) (hl : l.length ≤ 1152921504606846975) : ∀ (k i : Nat) (m lo : Int), i ≤ l.length → 2 * l.length - i < k →
    impl_mostVotes.l0 k l m lo l (l.length : Int) (i : Int) = some (mp l (l.drop i) m lo) := by
  intro k
  induction k with
  | zero => intro i _ _ _ hk; omega
  | succ k ih =>
    intro i m lo hi hk
    simp only [impl_mostVotes.l0]
    by_cases hlt : i < l.length
    · rw [if_pos (by omega), if_pos (by omega), if_pos (by omega), rdS hlt, iVotes_eq hl (by omega)]
      simp only [Option.bind_some]
      rw [wsucc (by omega), List.drop_eq_getElem_cons hlt]
      unfold mp
      by_cases h1 : cnt l l[i].f0 > m
      · rw [if_pos h1, if_pos h1, ih (i + 1) _ _ (by omega) (by omega)]
      · rw [if_neg h1, if_neg h1]
        by_cases h2 : cnt l l[i].f0 = m
        · rw [if_pos h2]
          by_cases h3 : l[i].f0 < lo
          · rw [if_pos h3, if_pos ⟨h2, h3⟩, ih (i + 1) _ _ (by omega) (by omega), h2]
          · rw [if_neg h3, if_neg (fun e => h3 e.2), ih (i + 1) _ _ (by omega) (by omega)]
        · rw [if_neg h2, if_neg (fun e => h2 e.1), ih (i + 1) _ _ (by omega) (by omega)]
    · have e : i = l.length := by omega
      rw [if_neg (by omega), e, List.drop_length]
      rfl

theorem iMost_eq {l : List Sp} (hl : l.length ≤ 1152921504606846975) {k : Nat} (hk : 2 * l.length < k) : impl_mostVotes.f k l = some (mp l l 0 0) := by
  unfold impl_mostVotes.f
  have h := iMost_l0 l hl k 0 0 0 (Nat.zero_le _) (by omega)
  rw [List.drop_zero] at h
  exact h

theorem cnt_append : ∀ (a b : List Sp) (n : Int), cnt (a ++ b) n = cnt a n + cnt b n
  | [], b, n => by show cnt b n = 0 + cnt b n; omega
  | s :: a, b, n => by
    show (if hasB s n = true then 1 else 0) + cnt (a ++ b) n = (if hasB s n = true then 1 else 0) + cnt a n + cnt b n
    rw [cnt_append a b n]; omega

theorem cnt_mono {m n : Int} : ∀ {l : List Sp}, (∀ s ∈ l, hasB s n = true → hasB s m = true) → cnt l n ≤ cnt l m
  | [], _ => Int.le_refl _
  | s :: l, h => by
    have h1 := cnt_mono (l := l) (fun t ht => h t (List.mem_cons_of_mem _ ht))
    have h2 := h s List.mem_cons_self
    unfold cnt
    by_cases hs : hasB s n = true
    · rw [if_pos hs, if_pos (h2 hs)]; omega
    · rw [if_neg hs]; split <;> omega

theorem cnt_pos_of {n : Int} : ∀ {l : List Sp}, (∃ s ∈ l, hasB s n = true) → 1 ≤ cnt l n
  | [], h => by obtain ⟨s, hs, _⟩ := h; simp at hs
  | t :: l, h => by
    have hr := cnt_rng l n
    unfold cnt
    by_cases ht : hasB t n = true
    · rw [if_pos ht]; omega
    · rw [if_neg ht]
      obtain ⟨s, hs, hb⟩ := h
      have hs' : s ∈ l := by
        rcases List.mem_cons.1 hs with rfl | hs
        · exact absurd hb ht
        · exact hs
      have := cnt_pos_of (n := n) (l := l) ⟨s, hs', hb⟩
      omega

theorem has_of_pos {n : Int} : ∀ {l : List Sp}, 1 ≤ cnt l n → ∃ s ∈ l, hasB s n = true
  | [], h => by unfold cnt at h; omega
  | t :: l, h => by
    by_cases ht : hasB t n = true
    · exact ⟨t, List.mem_cons_self, ht⟩
    · unfold cnt at h
      rw [if_neg ht] at h
      obtain ⟨s, hs, hb⟩ := has_of_pos (n := n) (l := l) (by omega)
      exact ⟨s, List.mem_cons_of_mem _ hs, hb⟩

theorem own_low {s : Sp} (h : okS s = true) : hasB s s.f0 = true := decide_eq_true ⟨Int.le_refl _, ((okS_iff s).1 h).2.2.1⟩
theorem own_high {s : Sp} (h : okS s = true) : hasB s s.f1 = true := decide_eq_true ⟨((okS_iff s).1 h).2.2.1, Int.le_refl _⟩

/-- Of the elements with a property one has the greatest Low. -/
theorem top_of {p : Sp → Prop} : ∀ {l : List Sp}, (∃ s ∈ l, p s) → ∃ s ∈ l, p s ∧ ∀ t ∈ l, p t → t.f0 ≤ s.f0
  | [], h => by obtain ⟨s, hs, _⟩ := h; simp at hs
  | a :: l, h => by
    by_cases hl : ∃ s ∈ l, p s
    · obtain ⟨s, hs, hp, hm⟩ := top_of hl
      by_cases ha : p a ∧ s.f0 < a.f0
      · refine ⟨a, List.mem_cons_self, ha.1, fun t ht hpt => ?_⟩
        rcases List.mem_cons.1 ht with rfl | ht
        · exact Int.le_refl _
        · have := hm t ht hpt; omega
      · refine ⟨s, List.mem_cons_of_mem _ hs, hp, fun t ht hpt => ?_⟩
        rcases List.mem_cons.1 ht with rfl | ht
        · by_cases hlt : s.f0 < t.f0
          · exact absurd ⟨hpt, hlt⟩ ha
          · omega
        · exact hm t ht hpt
    · obtain ⟨s, hs, hp⟩ := h
      rcases List.mem_cons.1 hs with rfl | hs
      · refine ⟨s, List.mem_cons_self, hp, fun t ht hpt => ?_⟩
        rcases List.mem_cons.1 ht with rfl | ht
        · exact Int.le_refl _
        · exact absurd ⟨t, ht, hpt⟩ hl
      · exact absurd ⟨s, hs, hp⟩ hl

/-- No number has more votes than the best Low of the spans that have it. -/
theorem cnt_le_low {l : List Sp} {n : Int} (h : 1 ≤ cnt l n) : ∃ s ∈ l, hasB s n = true ∧ cnt l n ≤ cnt l s.f0 := by
  obtain ⟨s, hs, hb, hm⟩ := top_of (p := fun s => hasB s n = true) (has_of_pos h)
  refine ⟨s, hs, hb, cnt_mono (fun t ht htn => ?_)⟩
  have h1 := hm t ht htn
  have hb' := of_decide_eq_true hb
  have htn' := of_decide_eq_true htn
  exact decide_eq_true ⟨by omega, by omega⟩

theorem mst_ge (a : List Sp) : ∀ (l : List Sp) (m : Int), m ≤ mst a l m ∧ ∀ s ∈ l, cnt a s.f0 ≤ mst a l m
  | [], m => ⟨Int.le_refl _, fun s hs => by simp at hs⟩
  | t :: l, m => by
    obtain ⟨h1, h2⟩ := mst_ge a l (mx m (cnt a t.f0))
    have hx : m ≤ mx m (cnt a t.f0) ∧ cnt a t.f0 ≤ mx m (cnt a t.f0) := by unfold mx; split <;> omega
    unfold mst
    refine ⟨by omega, fun s hs => ?_⟩
    rcases List.mem_cons.1 hs with rfl | hs
    · omega
    · exact h2 s hs

theorem mst_at (a : List Sp) : ∀ (l : List Sp) (m : Int), mst a l m = m ∨ ∃ s ∈ l, mst a l m = cnt a s.f0
  | [], m => .inl rfl
  | t :: l, m => by
    unfold mst
    rcases mst_at a l (mx m (cnt a t.f0)) with h | ⟨s, hs, h⟩
    · rw [h]
      unfold mx
      split
      · exact .inr ⟨t, List.mem_cons_self, rfl⟩
      · exact .inl rfl
    · exact .inr ⟨s, List.mem_cons_of_mem _ hs, h⟩

theorem most_ge (l : List Sp) (n : Int) : cnt l n ≤ mst l l 0 := by
  obtain ⟨h1, h2⟩ := mst_ge l l 0
  by_cases h : 1 ≤ cnt l n
  · obtain ⟨s, hs, _, hle⟩ := cnt_le_low h
    have := h2 s hs
    omega
  · omega

theorem most_at {l : List Sp} (h : vld l = true) : ∃ s ∈ l, mst l l 0 = cnt l s.f0 := by
  obtain ⟨⟨h1, _⟩, h2⟩ := (vld_iff l).1 h
  rcases mst_at l l 0 with h0 | h0
  · match l, h1 with
    | s :: l', _ =>
      have hs : s ∈ s :: l' := List.mem_cons_self
      have hp := cnt_pos_of (l := s :: l') (n := s.f0) ⟨s, hs, own_low (h2 s hs)⟩
      have hm := most_ge (s :: l') s.f0
      omega
  · exact h0

theorem most_pos {l : List Sp} (h : vld l = true) : 1 ≤ mst l l 0 := by
  obtain ⟨s, hs, e⟩ := most_at h
  rw [e]
  exact cnt_pos_of ⟨s, hs, own_low (((vld_iff l).1 h).2 s hs)⟩

/-- The least Low with M votes, and x; the least High of the spans that have a number, and x. -/
def sl (a : List Sp) (M : Int) : List Sp → Int → Int
  | [], x => x
  | s :: l, x => if cnt a s.f0 = M then sl a M l (mn x s.f0) else sl a M l x
def hv (lo : Int) : List Sp → Int → Int
  | [], x => x
  | s :: l, x => if hasB s lo = true then hv lo l (mn x s.f1) else hv lo l x

theorem mst_le (a l : List Sp) (m : Int) : m ≤ mst a l m := (mst_ge a l m).1

theorem mp_snd (a : List Sp) : ∀ (l : List Sp) (m lo : Int), (∀ s ∈ l, s.f0 ≤ 1000000) →
    (mp a l m lo).2 = if mst a l m = m then sl a (mst a l m) l lo else sl a (mst a l m) l 1000000
  | [], m, lo, _ => by show lo = if m = m then lo else 1000000; rw [if_pos rfl]
  | s :: l, m, lo, h => by
    have h' : ∀ t ∈ l, t.f0 ≤ 1000000 := fun t ht => h t (List.mem_cons_of_mem _ ht)
    have hs := h s List.mem_cons_self
    unfold mp mst
    by_cases h1 : cnt a s.f0 > m
    · have e : mx m (cnt a s.f0) = cnt a s.f0 := by unfold mx; rw [if_pos (by omega)]
      have hM := mst_le a l (cnt a s.f0)
      have e2 : mn 1000000 s.f0 = s.f0 := by unfold mn; split <;> omega
      rw [if_pos h1, mp_snd a l _ _ h', e, if_neg (c := mst a l (cnt a s.f0) = m) (by omega)]
      by_cases h2 : mst a l (cnt a s.f0) = cnt a s.f0
      · rw [if_pos h2, sl.eq_2, if_pos h2.symm, e2]
      · rw [if_neg h2, sl.eq_2, if_neg (fun q => h2 q.symm)]
    · have e : mx m (cnt a s.f0) = m := by unfold mx; rw [if_neg (by omega)]
      have hM := mst_le a l m
      rw [if_neg h1, e]
      by_cases h2 : cnt a s.f0 = m ∧ s.f0 < lo
      · have e2 : mn lo s.f0 = s.f0 := by unfold mn; rw [if_pos h2.2]
        rw [if_pos h2, mp_snd a l _ _ h']
        by_cases h3 : mst a l m = m
        · rw [if_pos h3, if_pos h3, sl.eq_2, if_pos (by rw [h3]; exact h2.1), e2]
        · rw [if_neg h3, if_neg h3, sl.eq_2, if_neg (by rw [h2.1]; exact fun q => h3 q.symm)]
      · rw [if_neg h2, mp_snd a l _ _ h']
        by_cases h3 : mst a l m = m
        · rw [if_pos h3, if_pos h3, sl.eq_2]
          by_cases h4 : cnt a s.f0 = mst a l m
          · have e2 : mn lo s.f0 = lo := by unfold mn; rw [if_neg (fun q => h2 ⟨by omega, q⟩)]
            rw [if_pos h4, e2]
          · rw [if_neg h4]
        · rw [if_neg h3, if_neg h3, sl.eq_2, if_neg (by omega)]

def LO (l : List Sp) : Int := sl l (mst l l 0) l 1000000
def HI (l : List Sp) : Int := hv (LO l) l 1000000
/-- The sources agree. -/
def agB (l : List Sp) : Bool := vld l && decide ((l.length : Int) < 2 * mst l l 0)
def AG (l : List Sp) : Int × Int × Bool := if agB l = true then (LO l, HI l, true) else (0, 0, false)
theorem AG_t {l : List Sp} (h : agB l = true) : AG l = (LO l, HI l, true) := by unfold AG; rw [if_pos h]
theorem AG_f {l : List Sp} (h : ¬ agB l = true) : AG l = (0, 0, false) := by unfold AG; rw [if_neg h]
theorem agB_iff (l : List Sp) : agB l = true ↔ vld l = true ∧ (l.length : Int) < 2 * mst l l 0 := by
  unfold agB; rw [Bool.and_eq_true, decide_eq_true_eq]

theorem mp_lo {l : List Sp} (h : vld l = true) : (mp l l 0 0).2 = LO l := by
  have h1 : ∀ s ∈ l, s.f0 ≤ 1000000 := fun s hs => ((okS_iff s).1 (((vld_iff l).1 h).2 s hs)).2.1
  have h2 := most_pos h
  rw [mp_snd l l 0 0 h1, if_neg (by omega)]
  rfl

theorem iHi_l0 (l : List Sp) (hl : l.length ≤ 1152921504606846975) (lo z : Int) : ∀ (k i : Nat) (x : Int), i ≤ l.length → l.length - i < k →
    impl_AgreedSpan.l0 k lo l (l.length : Int) (i : Int) z x = some (z, hv lo (l.drop i) x, true) := by
  intro k
  induction k with
  | zero => intro i _ _ hk; omega
  | succ k ih =>
    intro i x hi hk
    simp only [impl_AgreedSpan.l0]
    by_cases hlt : i < l.length
    · rw [if_pos (by omega), if_pos (by omega), if_pos (by omega), rdS hlt, iHas_eq]
      simp only [Option.bind_some]
      rw [wsucc (by omega), List.drop_eq_getElem_cons hlt, hv.eq_2]
      cases ho : hasB l[i] lo with
      | true =>
        have ho' : decide (l[i].f0 ≤ lo ∧ lo ≤ l[i].f1) = true := ho
        rw [if_pos ho', if_pos rfl, ih (i + 1) _ (by omega) (by omega)]
      | false =>
        have ho' : decide (l[i].f0 ≤ lo ∧ lo ≤ l[i].f1) = false := ho
        rw [if_neg (by rw [ho']; decide), if_neg (by decide), ih (i + 1) _ (by omega) (by omega)]
    · have e : i = l.length := by omega
      rw [if_neg (by omega), e, List.drop_length]
      rfl

theorem iAG_eq {l : List Sp} (hl : l.length ≤ 1048577) {k : Nat} (hk : 2 * l.length < k) : impl_AgreedSpan.f k l = some (AG l) := by
  unfold impl_AgreedSpan.f
  rw [iValid_eq]; simp only [Option.bind_some]
  by_cases hv0 : vld l = true
  · rw [if_pos hv0, iMost_eq (by omega) hk]
    simp only [Option.bind_some]
    rw [mp_fst]
    obtain ⟨s, _, hs⟩ := most_at hv0
    have hr := cnt_rng l s.f0
    rw [w64 (by omega) (by omega)]
    by_cases hm : (l.length : Int) < 2 * mst l l 0
    · rw [if_neg (by omega), mp_lo hv0, AG_t ((agB_iff l).2 ⟨hv0, hm⟩)]
      have h := iHi_l0 l (by omega) (LO l) (LO l) k 0 1000000 (Nat.zero_le _) (by omega)
      rw [List.drop_zero] at h
      exact h
    · rw [if_pos (by omega), AG_f (fun h => hm ((agB_iff l).1 h).2)]
  · rw [if_neg hv0, AG_f (fun h => hv0 ((agB_iff l).1 h).1)]

theorem sHi_l1 (l : List Sp) (hl : l.length ≤ 1152921504606846975) (lo : Int) : ∀ (d k i : Nat) (x : Int), i ≤ l.length → l.length - i = d → d < k →
    spec_agreed.l1 k l lo x (i : Int) = some (lo, hv lo (l.drop i) x) := by
  intro d
  induction d with
  | zero =>
    intro k i x hi hd hk
    obtain ⟨k, rfl⟩ : ∃ m, k = m + 1 := ⟨k - 1, by omega⟩
    rw [spec_agreed.l1]
    have e : i = l.length := by omega
    rw [if_neg (by omega), e, List.drop_length]
    rfl
  | succ d ih =>
    intro k i x hi hd hk
    obtain ⟨k, rfl⟩ : ∃ m, k = m + 1 := ⟨k - 1, by omega⟩
    have hlt : i < l.length := by omega
    rw [spec_agreed.l1]
    rw [if_pos (by omega), if_pos (by omega), rdS hlt, List.drop_eq_getElem_cons hlt, hv.eq_2, wsucc (by omega)]
    by_cases hge : l[i].f1 ≥ lo
    · rw [if_pos hge, inRange_eq]
      simp only [Option.bind_some]
      cases ho : hasB l[i] lo with
      | true =>
        have ho' : decide (l[i].f0 ≤ lo ∧ lo ≤ l[i].f1) = true := ho
        rw [if_pos ho', if_pos rfl, ih k (i + 1) _ (by omega) (by omega) (by omega)]
      | false =>
        have ho' : decide (l[i].f0 ≤ lo ∧ lo ≤ l[i].f1) = false := ho
        rw [if_neg (by rw [ho']; decide), if_neg (by decide), ih k (i + 1) _ (by omega) (by omega) (by omega)]
    · have e : hasB l[i] lo = false := decide_eq_false (fun q => hge q.2)
      rw [if_neg hge, e, if_neg (by decide), ih k (i + 1) _ (by omega) (by omega) (by omega)]

theorem sLo_l0 (l : List Sp) (hl : l.length ≤ 1152921504606846975) (M : Int) : ∀ (d k i : Nat) (x : Int), i ≤ l.length → l.length - i = d → d + 2 * l.length + 1 < k →
    spec_agreed.l0 k l M x (i : Int) = some (sl l M (l.drop i) x, hv (sl l M (l.drop i) x) l 1000000) := by
  intro d
  induction d with
  | zero =>
    intro k i x hi hd hk
    obtain ⟨k, rfl⟩ : ∃ m, k = m + 1 := ⟨k - 1, by omega⟩
    rw [spec_agreed.l0]
    have e : i = l.length := by omega
    rw [if_neg (by omega), e, List.drop_length]
    have h := sHi_l1 l hl x l.length k 0 1000000 (Nat.zero_le _) (by omega) (by omega)
    rw [List.drop_zero] at h
    exact h
  | succ d ih =>
    intro k i x hi hd hk
    obtain ⟨k, rfl⟩ : ∃ m, k = m + 1 := ⟨k - 1, by omega⟩
    have hlt : i < l.length := by omega
    rw [spec_agreed.l0]
    rw [if_pos (by omega), if_pos (by omega), rdS hlt, sVotes_eq hl (by omega)]
    simp only [Option.bind_some]
    rw [wsucc (by omega), List.drop_eq_getElem_cons hlt, sl.eq_2]
    by_cases h1 : cnt l l[i].f0 = M
    · rw [if_pos h1, if_pos h1, ih k (i + 1) _ (by omega) (by omega) (by omega)]
    · rw [if_neg h1, if_neg h1, ih k (i + 1) _ (by omega) (by omega) (by omega)]

theorem sAG_eq {l : List Sp} (hl : l.length ≤ 1048577) {k : Nat} (hk : 3 * l.length + 3 < k) : spec_AgreedSpan.f k l = some (AG l) := by
  unfold spec_AgreedSpan.f
  rw [sValid_eq (by omega) (by omega)]; simp only [Option.bind_some]
  by_cases hv0 : vld l = true
  · rw [if_pos hv0, sMost_eq (by omega) (by omega)]
    simp only [Option.bind_some]
    obtain ⟨s, _, hs⟩ := most_at hv0
    have hr := cnt_rng l s.f0
    rw [w64 (by omega) (by omega)]
    by_cases hm : (l.length : Int) < 2 * mst l l 0
    · rw [if_neg (by omega), AG_t ((agB_iff l).2 ⟨hv0, hm⟩)]
      unfold spec_agreed.f
      rw [sMost_eq (by omega) (by omega)]
      simp only [Option.bind_some]
      have h := sLo_l0 l (by omega) (mst l l 0) l.length k 0 1000000 (Nat.zero_le _) (by omega) (by omega)
      rw [List.drop_zero, show ((0 : Nat) : Int) = 0 from rfl] at h
      rw [h]
      rfl
    · rw [if_pos (by omega), AG_f (fun h => hm ((agB_iff l).1 h).2)]
  · rw [if_neg hv0, AG_f (fun h => hv0 ((agB_iff l).1 h).1)]

theorem sl_le (a : List Sp) (M : Int) : ∀ (l : List Sp) (x : Int), sl a M l x ≤ x ∧ (∀ s ∈ l, cnt a s.f0 = M → sl a M l x ≤ s.f0) ∧ (sl a M l x = x ∨ ∃ s ∈ l, cnt a s.f0 = M ∧ sl a M l x = s.f0)
  | [], x => ⟨Int.le_refl _, fun s hs => by simp at hs, .inl rfl⟩
  | t :: l, x => by
    rw [sl.eq_2]
    by_cases h : cnt a t.f0 = M
    · rw [if_pos h]
      obtain ⟨h1, h2, h3⟩ := sl_le a M l (mn x t.f0)
      have hx : mn x t.f0 ≤ x ∧ mn x t.f0 ≤ t.f0 ∧ (mn x t.f0 = x ∨ mn x t.f0 = t.f0) := by unfold mn; split <;> omega
      refine ⟨by omega, fun s hs hc => ?_, ?_⟩
      · rcases List.mem_cons.1 hs with rfl | hs
        · omega
        · exact h2 s hs hc
      · rcases h3 with h3 | ⟨s, hs, hc, he⟩
        · rcases hx.2.2 with q | q
          · exact .inl (by omega)
          · exact .inr ⟨t, List.mem_cons_self, h, by omega⟩
        · exact .inr ⟨s, List.mem_cons_of_mem _ hs, hc, he⟩
    · rw [if_neg h]
      obtain ⟨h1, h2, h3⟩ := sl_le a M l x
      refine ⟨h1, fun s hs hc => ?_, ?_⟩
      · rcases List.mem_cons.1 hs with rfl | hs
        · exact absurd hc h
        · exact h2 s hs hc
      · rcases h3 with h3 | ⟨s, hs, hc, he⟩
        · exact .inl h3
        · exact .inr ⟨s, List.mem_cons_of_mem _ hs, hc, he⟩

theorem hv_le (lo : Int) : ∀ (l : List Sp) (x : Int), hv lo l x ≤ x ∧ (∀ s ∈ l, hasB s lo = true → hv lo l x ≤ s.f1) ∧ (hv lo l x = x ∨ ∃ s ∈ l, hasB s lo = true ∧ hv lo l x = s.f1)
  | [], x => ⟨Int.le_refl _, fun s hs => by simp at hs, .inl rfl⟩
  | t :: l, x => by
    rw [hv.eq_2]
    by_cases h : hasB t lo = true
    · rw [if_pos h]
      obtain ⟨h1, h2, h3⟩ := hv_le lo l (mn x t.f1)
      have hx : mn x t.f1 ≤ x ∧ mn x t.f1 ≤ t.f1 ∧ (mn x t.f1 = x ∨ mn x t.f1 = t.f1) := by unfold mn; split <;> omega
      refine ⟨by omega, fun s hs hc => ?_, ?_⟩
      · rcases List.mem_cons.1 hs with rfl | hs
        · omega
        · exact h2 s hs hc
      · rcases h3 with h3 | ⟨s, hs, hc, he⟩
        · rcases hx.2.2 with q | q
          · exact .inl (by omega)
          · exact .inr ⟨t, List.mem_cons_self, h, by omega⟩
        · exact .inr ⟨s, List.mem_cons_of_mem _ hs, hc, he⟩
    · rw [if_neg h]
      obtain ⟨h1, h2, h3⟩ := hv_le lo l x
      refine ⟨h1, fun s hs hc => ?_, ?_⟩
      · rcases List.mem_cons.1 hs with rfl | hs
        · exact absurd hc h
        · exact h2 s hs hc
      · rcases h3 with h3 | ⟨s, hs, hc, he⟩
        · exact .inl h3
        · exact .inr ⟨s, List.mem_cons_of_mem _ hs, hc, he⟩

/-- What the agreed span is: Low is the least number with the most votes, High the least end of the spans that have it. -/
structure IsAg (l : List Sp) (lo hi : Int) : Prop where
  most : ∀ n, cnt l n ≤ cnt l lo
  least : ∀ n, cnt l n = cnt l lo → lo ≤ n
  ends : ∀ s ∈ l, hasB s lo = true → hi ≤ s.f1
  at_ : ∃ s ∈ l, hasB s lo = true ∧ hi = s.f1
  ord : lo ≤ hi

theorem lo_votes {l : List Sp} (h : vld l = true) : cnt l (LO l) = mst l l 0 := by
  obtain ⟨s, hs, he⟩ := most_at h
  obtain ⟨h1, h2, h3⟩ := sl_le l (mst l l 0) l 1000000
  rcases h3 with h3 | ⟨t, ht, hc, hq⟩
  · have h4 := h2 s hs he.symm
    have h5 := ((okS_iff s).1 (((vld_iff l).1 h).2 s hs)).2.1
    have h6 : LO l = s.f0 := by unfold LO; omega
    rw [h6]; exact he.symm
  · have h6 : LO l = t.f0 := hq
    rw [h6]; exact hc

theorem ag_is {l : List Sp} (h : vld l = true) : IsAg l (LO l) (HI l) := by
  have hM := lo_votes h
  obtain ⟨h1, h2, _⟩ := sl_le l (mst l l 0) l 1000000
  obtain ⟨g1, g2, g3⟩ := hv_le (LO l) l 1000000
  have hp := most_pos h
  obtain ⟨u, hu, hub⟩ := has_of_pos (l := l) (n := LO l) (by omega)
  have hat : ∃ s ∈ l, hasB s (LO l) = true ∧ HI l = s.f1 := by
    rcases g3 with g3 | g3
    · have h4 := g2 u hu hub
      have h5 := ((okS_iff u).1 (((vld_iff l).1 h).2 u hu)).2.2.2
      exact ⟨u, hu, hub, by unfold HI; omega⟩
    · exact g3
  refine ⟨fun n => by rw [hM]; exact most_ge l n, fun n hn => ?_, g2, hat, ?_⟩
  · obtain ⟨s, hs, hb, hle⟩ := cnt_le_low (l := l) (n := n) (by omega)
    have hc : cnt l s.f0 = mst l l 0 := by
      have := most_ge l s.f0
      omega
    have h3 := h2 s hs hc
    have h4 := of_decide_eq_true hb
    unfold LO
    omega
  · obtain ⟨s, hs, hb, he⟩ := hat
    have h4 := of_decide_eq_true hb
    omega

theorem most_cnt {l : List Sp} (h : vld l = true) {lo : Int} (hm : ∀ n, cnt l n ≤ cnt l lo) : mst l l 0 = cnt l lo := by
  obtain ⟨s, _, he⟩ := most_at h
  have h1 := most_ge l lo
  have h2 := hm s.f0
  omega

theorem ag_unique {l : List Sp} {lo hi : Int} (h : vld l = true) (hi' : IsAg l lo hi) : LO l = lo ∧ HI l = hi := by
  have a := ag_is h
  have e : LO l = lo := by
    have h1 := a.most lo
    have h2 := hi'.most (LO l)
    have h3 := a.least lo (by omega)
    have h4 := hi'.least (LO l) (by omega)
    omega
  refine ⟨e, ?_⟩
  obtain ⟨s, hs, hb, he⟩ := a.at_
  obtain ⟨t, ht, hc, hq⟩ := hi'.at_
  rw [e] at hb
  have h1 := hi'.ends s hs hb
  have h2 := a.ends t ht (by rw [e]; exact hc)
  omega

theorem cnt_hi {l : List Sp} {lo hi n : Int} (a : IsAg l lo hi) (h1 : lo ≤ n) (h2 : n ≤ hi) : cnt l n = cnt l lo := by
  have h3 := a.most n
  have h4 : cnt l lo ≤ cnt l n := cnt_mono (fun s hs hb => by
    have := a.ends s hs hb
    have hb' := of_decide_eq_true hb
    exact decide_eq_true ⟨by omega, by omega⟩)
  omega

/-- The numbers, from i on, of the spans that do not have lo. -/
def fals (lo : Int) : Nat → List Sp → List Int
  | _, [] => []
  | i, s :: l => if hasB s lo = true then fals lo (i + 1) l else (i : Int) :: fals lo (i + 1) l

theorem fals_len (lo : Int) : ∀ (l : List Sp) (i : Nat), ((fals lo i l).length : Int) = l.length - cnt l lo
  | [], i => rfl
  | s :: l, i => by
    have h := fals_len lo l (i + 1)
    unfold fals cnt
    rw [List.length_cons]
    by_cases hb : hasB s lo = true
    · rw [if_pos hb, if_pos hb]; omega
    · rw [if_neg hb, if_neg hb, List.length_cons]; omega

def FS (l : List Sp) : List Int × Bool := if agB l = true then (fals (LO l) 0 l, true) else ([], false)
theorem FS_t {l : List Sp} (h : agB l = true) : FS l = (fals (LO l) 0 l, true) := by unfold FS; rw [if_pos h]
theorem FS_f {l : List Sp} (h : ¬ agB l = true) : FS l = ([], false) := by unfold FS; rw [if_neg h]

theorem iFs_l0 (l : List Sp) (hl : l.length ≤ 1048577) (lo z : Int) : ∀ (d k i : Nat) (acc : List Int), i ≤ l.length → l.length - i = d → d < k → acc.length ≤ i →
    impl_FalseSources.l0 k acc l (l.length : Int) (i : Int) lo z = some (acc ++ fals lo i (l.drop i), true) := by
  intro d
  induction d with
  | zero =>
    intro k i acc hi hd hk ha
    obtain ⟨k, rfl⟩ : ∃ m, k = m + 1 := ⟨k - 1, by omega⟩
    simp only [impl_FalseSources.l0]
    have e : i = l.length := by omega
    rw [if_neg (by omega), e, List.drop_length]
    unfold fals
    rw [List.append_nil]
  | succ d ih =>
    intro k i acc hi hd hk ha
    obtain ⟨k, rfl⟩ : ∃ m, k = m + 1 := ⟨k - 1, by omega⟩
    have hlt : i < l.length := by omega
    simp only [impl_FalseSources.l0]
    rw [if_pos (by omega), if_pos (by omega), if_pos (by omega), rdS hlt, iHas_eq]
    simp only [Option.bind_some]
    rw [List.drop_eq_getElem_cons hlt, fals.eq_2, wsucc (by omega)]
    cases ho : hasB l[i] lo with
    | true =>
      have ho' : decide (l[i].f0 ≤ lo ∧ lo ≤ l[i].f1) = true := ho
      rw [if_pos ho', if_pos rfl, ih k (i + 1) _ (by omega) (by omega) (by omega) (by omega)]
    | false =>
      have ho' : decide (l[i].f0 ≤ lo ∧ lo ≤ l[i].f1) = false := ho
      rw [if_neg (by rw [ho']; decide), if_pos (by omega), if_neg (by decide), ih k (i + 1) _ (by omega) (by omega) (by omega) (by rw [List.length_append, List.length_singleton]; omega), List.append_assoc]
      rfl

theorem iFS_eq {l : List Sp} (hl : l.length ≤ 1048577) {k : Nat} (hk : 2 * l.length < k) : impl_FalseSources.f k l = some (FS l) := by
  unfold impl_FalseSources.f
  rw [iAG_eq hl hk]; simp only [Option.bind_some]
  by_cases h : agB l = true
  · rw [AG_t h, FS_t h]
    dsimp only
    rw [if_pos rfl]
    have q := iFs_l0 l hl (LO l) (HI l) l.length k 0 [] (Nat.zero_le _) (by omega) (by omega) (Nat.le_refl _)
    rw [List.drop_zero, List.nil_append] at q
    exact q
  · rw [AG_f h, FS_f h]
    rfl

theorem sFs_l0 (l : List Sp) (hl : l.length ≤ 1048577) (lo z : Int) : ∀ (d k i : Nat) (acc : List Int), i ≤ l.length → l.length - i = d → d < k → acc.length ≤ i →
    spec_FalseSources.l0 k l acc (i : Int) lo z = some (acc ++ fals lo i (l.drop i), true) := by
  intro d
  induction d with
  | zero =>
    intro k i acc hi hd hk ha
    obtain ⟨k, rfl⟩ : ∃ m, k = m + 1 := ⟨k - 1, by omega⟩
    simp only [spec_FalseSources.l0]
    have e : i = l.length := by omega
    rw [if_neg (by omega), e, List.drop_length]
    unfold fals
    rw [List.append_nil]
  | succ d ih =>
    intro k i acc hi hd hk ha
    obtain ⟨k, rfl⟩ : ∃ m, k = m + 1 := ⟨k - 1, by omega⟩
    have hlt : i < l.length := by omega
    simp only [spec_FalseSources.l0]
    rw [if_pos (by omega), if_pos (by omega), rdS hlt, inRange_eq]
    simp only [Option.bind_some]
    rw [List.drop_eq_getElem_cons hlt, fals.eq_2, wsucc (by omega)]
    cases ho : hasB l[i] lo with
    | true =>
      have ho' : decide (l[i].f0 ≤ lo ∧ lo ≤ l[i].f1) = true := ho
      rw [if_pos ho', if_pos rfl, ih k (i + 1) _ (by omega) (by omega) (by omega) (by omega)]
    | false =>
      have ho' : decide (l[i].f0 ≤ lo ∧ lo ≤ l[i].f1) = false := ho
      rw [if_neg (by rw [ho']; decide), if_pos (by omega), if_neg (by decide), ih k (i + 1) _ (by omega) (by omega) (by omega) (by rw [List.length_append, List.length_singleton]; omega), List.append_assoc]
      rfl

theorem sFS_eq {l : List Sp} (hl : l.length ≤ 1048577) {k : Nat} (hk : 3 * l.length + 3 < k) : spec_FalseSources.f k l = some (FS l) := by
  unfold spec_FalseSources.f
  rw [sAG_eq hl hk]; simp only [Option.bind_some]
  by_cases h : agB l = true
  · rw [AG_t h, FS_t h]
    dsimp only
    rw [if_pos rfl]
    have q := sFs_l0 l hl (LO l) (HI l) l.length k 0 [] (Nat.zero_le _) (by omega) (by omega) (Nat.le_refl _)
    rw [List.drop_zero, List.nil_append] at q
    exact q
  · rw [AG_f h, FS_f h]
    rfl

theorem fals_short (lo : Int) (l : List Sp) (i : Nat) : (fals lo i l).length ≤ l.length := by
  have h := fals_len lo l i
  have h2 := cnt_rng l lo
  omega

theorem FS_short (l : List Sp) : (FS l).1.length ≤ l.length := by
  unfold FS
  split
  · exact fals_short _ _ _
  · exact Nat.zero_le _

theorem rdI {l : List Int} {i : Nat} (h : i < l.length) : rd l (i : Int) = l[i] := by
  unfold rd
  rw [Int.toNat_natCast, List.getD_eq_getElem?_getD, List.getElem?_eq_getElem h]; rfl

abbrev LSp := S58
def cv (s : LSp) : Sp := ⟨s.f0, s.f1⟩

theorem rdL {l : List LSp} {i : Nat} (h : i < l.length) : rd_T58 l (i : Int) = l[i] := by
  unfold rd_T58
  rw [Int.toNat_natCast, List.getD_eq_getElem?_getD, List.getElem?_eq_getElem h]; rfl

theorem to_l0 (x : List LSp) (hx : x.length ≤ 1048576) : ∀ (k i : Nat) (acc : List Sp), acc.length = x.length → i ≤ x.length → x.length - i < k →
    laws_toSpanS.l0 k x acc (i : Int) = some (acc.take i ++ (x.drop i).map cv) := by
  intro k
  induction k with
  | zero => intro i _ _ _ hk; omega
  | succ k ih =>
    intro i acc ha hi hk
    simp only [laws_toSpanS.l0]
    by_cases hlt : i < x.length
    · rw [if_pos (by omega), if_pos (by omega), rdL hlt]
      unfold laws_toSpan.f
      simp only [Option.bind_some]
      rw [if_pos (by omega), Int.toNat_natCast, wsucc (by omega), ih (i + 1) _ (by rw [List.length_set]; exact ha) (by omega) (by omega)]
      rw [List.drop_eq_getElem_cons hlt, List.map_cons, List.take_succ_eq_append_getElem (by rw [List.length_set]; omega), List.getElem_set_self, List.take_set_of_le (Nat.le_refl i), List.append_assoc]
      rfl
    · have e : i = x.length := by omega
      rw [if_neg (by omega), e, List.drop_length, List.map_nil, List.append_nil, ← ha, List.take_length]

theorem to_eq {x : List LSp} (hx : x.length ≤ 1048576) {k : Nat} (hk : x.length < k) : laws_toSpanS.f k x = some (x.map cv) := by
  unfold laws_toSpanS.f
  rw [if_pos (by omega), if_pos (by omega)]
  have h := to_l0 x hx k 0 (List.replicate ((x.length : Int) : Int).toNat z26) (by rw [List.length_replicate, Int.toNat_natCast]) (Nat.zero_le _) (by omega)
  rw [List.take_zero, List.drop_zero, List.nil_append] at h
  exact h

theorem eqS_l0 (x : List Sp) (hx : x.length ≤ 1048576) : ∀ (k i : Nat), i ≤ x.length → x.length - i < k → laws_eqSpanS.l0 k x x (i : Int) = some true := by
  intro k
  induction k with
  | zero => intro i _ hk; omega
  | succ k ih =>
    intro i hi hk
    simp only [laws_eqSpanS.l0]
    by_cases hlt : i < x.length
    · rw [if_pos (by omega), if_pos (by omega), if_pos (by omega)]
      unfold laws_eqSpan.f
      rw [if_pos rfl, if_pos rfl]
      simp only [Option.bind_some]
      rw [if_pos (by trivial), wsucc (by omega)]
      exact ih (i + 1) (by omega) (by omega)
    · rw [if_neg (by omega)]

theorem eqS_eq {x : List Sp} (hx : x.length ≤ 1048576) {k : Nat} (hk : x.length < k) : laws_eqSpanS.f k x x = some true := by
  unfold laws_eqSpanS.f
  rw [if_pos rfl]
  exact eqS_l0 x hx k 0 (Nat.zero_le _) (by omega)

theorem sz_eq (x : List LSp) (hm : x.length ≤ maxLen) : laws_szSpanS.f x 1048576 = some (if x.length ≤ 1048576 then 1048576 - (x.length : Int) else -1) := by
  unfold laws_szSpanS.f
  unfold maxLen at hm
  rw [w64 (by omega) (by omega)]
  by_cases h : x.length ≤ 1048576
  · rw [if_neg (by omega), if_pos h]
  · rw [if_pos (by omega), if_neg h]

theorem eqX_l0 (x : List Int) (hx : x.length ≤ 1048577) : ∀ (k i : Nat), i ≤ x.length → x.length - i < k → laws_eqIntS.l0 k x x (i : Int) = some true := by
  intro k
  induction k with
  | zero => intro i _ hk; omega
  | succ k ih =>
    intro i hi hk
    simp only [laws_eqIntS.l0]
    by_cases hlt : i < x.length
    · rw [if_pos (by omega), if_pos (by omega), if_pos (by omega), if_pos (by trivial), wsucc (by omega)]
      exact ih (i + 1) (by omega) (by omega)
    · rw [if_neg (by omega)]

theorem eqX_eq {x : List Int} (hx : x.length ≤ 1048577) {k : Nat} (hk : x.length < k) : laws_eqIntS.f k x x = some true := by
  unfold laws_eqIntS.f
  rw [if_pos rfl]
  exact eqX_l0 x hx k 0 (Nat.zero_le _) (by omega)

/-- Numbers in a row, from m on. -/
def seqI : Int → Nat → List Int
  | _, 0 => []
  | m, n + 1 => m :: seqI (m + 1) n

theorem seqI_len : ∀ (n : Nat) (m : Int), (seqI m n).length = n
  | 0, m => rfl
  | n + 1, m => by unfold seqI; rw [List.length_cons, seqI_len n]

theorem markI_l0 : ∀ (d k i : Nat) (x : List Int) (m : Int), i ≤ x.length → x.length - i = d → d < k → x.length ≤ 1048577 → 0 ≤ m → m + d ≤ 100000000 →
    laws_markIntS.l0 k x m (i : Int) = some (m + d, x.take i ++ seqI m d) := by
  intro d
  induction d with
  | zero =>
    intro k i x m hi hd hk hx h0 h1
    obtain ⟨k, rfl⟩ : ∃ m, k = m + 1 := ⟨k - 1, by omega⟩
    simp only [laws_markIntS.l0]
    have e : i = x.length := by omega
    rw [if_neg (by omega), e, List.take_length]
    unfold seqI
    rw [List.append_nil, show m + ((0 : Nat) : Int) = m by omega]
  | succ d ih =>
    intro k i x m hi hd hk hx h0 h1
    obtain ⟨k, rfl⟩ : ∃ m, k = m + 1 := ⟨k - 1, by omega⟩
    have hlt : i < x.length := by omega
    simp only [laws_markIntS.l0]
    rw [if_pos (by omega), if_pos (by omega), Int.toNat_natCast, wsucc (by omega), w64 (x := m + 1) (by omega) (by omega)]
    rw [ih k (i + 1) _ (m + 1) (by rw [List.length_set]; omega) (by rw [List.length_set]; omega) (by omega) (by rw [List.length_set]; omega) (by omega) (by omega)]
    rw [List.take_succ_eq_append_getElem (by rw [List.length_set]; omega), List.getElem_set_self, List.take_set_of_le (Nat.le_refl i), List.append_assoc]
    rw [show m + 1 + (d : Int) = m + ((d + 1 : Nat) : Int) by omega]
    rfl

theorem markI_eq {x : List Int} (hx : x.length ≤ 1048577) {k : Nat} (hk : x.length < k) : laws_markIntS.f k x 1 = some (1 + (x.length : Int), seqI 1 x.length) := by
  unfold laws_markIntS.f
  have h := markI_l0 x.length k 0 x 1 (Nat.zero_le _) (by omega) hk hx (by omega) (by omega)
  rw [List.take_zero, List.nil_append] at h
  exact h

theorem heldI_l0 : ∀ (d k i : Nat) (x : List Int) (q : Int), x.length = i + d → d < k → x.length ≤ 1048577 → 0 ≤ q → q + d ≤ 100000000 → x.drop i = seqI q d →
    laws_heldIntS.l0 k x q (i : Int) = some (q + d) := by
  intro d
  induction d with
  | zero =>
    intro k i x q hl hk hx h0 h1 he
    obtain ⟨k, rfl⟩ : ∃ m, k = m + 1 := ⟨k - 1, by omega⟩
    simp only [laws_heldIntS.l0]
    rw [if_neg (by omega), show q + ((0 : Nat) : Int) = q by omega]
  | succ d ih =>
    intro k i x q hl hk hx h0 h1 he
    obtain ⟨k, rfl⟩ : ∃ m, k = m + 1 := ⟨k - 1, by omega⟩
    have hlt : i < x.length := by omega
    rw [List.drop_eq_getElem_cons hlt] at he
    unfold seqI at he
    obtain ⟨e1, e2⟩ := List.cons.inj he
    simp only [laws_heldIntS.l0]
    rw [if_pos (by omega), if_pos (by omega), rdI hlt, if_pos e1, wsucc (by omega), w64 (x := q + 1) (by omega) (by omega), ih k (i + 1) x (q + 1) (by omega) (by omega) hx (by omega) (by omega) e2]
    congr 1
    omega

theorem heldI_eq {n : Nat} (hn : n ≤ 1048577) {k : Nat} (hk : n < k) : laws_heldIntS.f k (seqI 1 n) 1 = some (1 + (n : Int)) := by
  unfold laws_heldIntS.f
  exact heldI_l0 n k 0 (seqI 1 n) 1 (by rw [seqI_len]; omega) hk (by rw [seqI_len]; omega) (by omega) (by omega) (by rw [List.drop_zero])

theorem markS_l0 : ∀ (d k i : Nat) (x : List Sp) (m : Int), i ≤ x.length → x.length - i = d → d < k → x.length ≤ 1048577 → 0 ≤ m → m + 2 * d ≤ 100000000 →
    ∃ x', laws_markSpanS.l0 k x m (i : Int) = some (m + 2 * d, x') := by
  intro d
  induction d with
  | zero =>
    intro k i x m hi hd hk hx h0 h1
    obtain ⟨k, rfl⟩ : ∃ m, k = m + 1 := ⟨k - 1, by omega⟩
    simp only [laws_markSpanS.l0]
    rw [if_neg (by omega)]
    exact ⟨x, by rw [show m + 2 * ((0 : Nat) : Int) = m by omega]⟩
  | succ d ih =>
    intro k i x m hi hd hk hx h0 h1
    obtain ⟨k, rfl⟩ : ∃ m, k = m + 1 := ⟨k - 1, by omega⟩
    simp only [laws_markSpanS.l0]
    rw [if_pos (by omega), if_pos (by omega)]
    simp only [Option.bind_some]
    rw [wsucc (by omega), w64 (x := m + 1) (by omega) (by omega), w64 (x := m + 1 + 1) (by omega) (by omega)]
    rw [show m + 2 * ((d + 1 : Nat) : Int) = m + 1 + 1 + 2 * (d : Int) by omega]
    exact ih k (i + 1) _ (m + 1 + 1) (by rw [List.length_set, List.length_set]; omega) (by rw [List.length_set, List.length_set]; omega) (by omega) (by rw [List.length_set, List.length_set]; omega) (by omega) (by omega)

theorem markS_eq {x : List Sp} (hx : x.length ≤ 1048577) {k : Nat} (hk : x.length < k) : ∃ x', laws_markSpanS.f k x 1 = some (1 + 2 * (x.length : Int), x') :=
  markS_l0 x.length k 0 x 1 (Nat.zero_le _) (by omega) hk hx (by omega) (by omega)

theorem FnExactFalseSources : ∀ (l0 : List S58), l0.length ≤ maxLen → ∃ k, laws_FnExactFalseSources.f k l0 = some true := by
  intro x hm
  refine ⟨3 * x.length + 9 + 1 + 1 + 1, ?_⟩
  unfold laws_FnExactFalseSources.f
  rw [sz_eq x hm]; simp only [Option.bind_some]
  by_cases h : x.length ≤ 1048576
  · have hl : (x.map cv).length = x.length := List.length_map _
    have hsh := FS_short (x.map cv)
    obtain ⟨x', hx'⟩ := markS_eq (x := x.map cv) (by omega) (k := 3 * x.length + 9 + 1 + 1) (by omega)
    rw [if_pos h, if_neg (by omega), to_eq h (by omega)]
    simp only [Option.bind_some]
    rw [sFS_eq (by omega) (by omega), iFS_eq (by omega) (by omega)]
    simp only [Option.bind_some]
    rw [eqX_eq (by omega) (by omega)]
    simp only [Option.bind_some]
    rw [if_pos (by trivial), show ((FS (x.map cv)).2 != (FS (x.map cv)).2) = false by simp]
    rw [laws_FnExactFalseSources.j0, if_neg (by decide), to_eq h (by omega)]
    simp only [Option.bind_some]
    rw [eqS_eq (by omega) (by omega)]
    simp only [Option.bind_some]
    rw [if_pos (by trivial), hx']
    simp only [Option.bind_some]
    rw [if_neg (by omega), eqX_eq (by omega) (by omega)]
    simp only [Option.bind_some]
    rw [if_pos (by trivial), show ((FS (x.map cv)).2 != (FS (x.map cv)).2) = false by simp]
    rw [laws_FnExactFalseSources.j1, if_neg (by decide), markI_eq (by omega) (by omega)]
    simp only [Option.bind_some]
    rw [heldI_eq (by omega) (by omega)]
    simp only [Option.bind_some]
    rw [if_neg (by omega), if_pos (by trivial), to_eq h (by omega)]
    simp only [Option.bind_some]
    rw [iFS_eq (by omega) (by omega)]
    simp only [Option.bind_some]
    rw [eqX_eq (by omega) (by omega)]
    simp only [Option.bind_some]
    rw [if_pos (by trivial), show ((FS (x.map cv)).2 != (FS (x.map cv)).2) = false by simp]
    rw [laws_FnExactFalseSources.j2, if_neg (by decide), heldI_eq (by omega) (by omega)]
    simp only [Option.bind_some]
    rw [if_neg (by omega), if_pos (by trivial)]
  · rw [if_neg h, if_pos (by omega)]

end Go.Proofs.Ytlgphpjialbaoaa.Pure
