/- A source that is alone agrees with itself: AgreedSpan of the first span alone is this span; the program's and the reference's AgreedSpan tell the same. For every input; no condition. -/
import Derived.Test.YtlgphpjialbaoaaPAllx7
import Derived.Test.YtlgphpjialbaoaaBase
namespace Go.Proofs.Ytlgphpjialbaoaa.Pure
open Go.RowKit Go.Proofs.Ytlgphpjialbaoaa.PAll Go.Proofs.YtlgphpjialbaoaaW.PrintWords Go.Proofs.YtlgphpjialbaoaaW.PrintLast Go.Proofs.YtlgphpjialbaoaaW.PrintMore Go.Proofs.Ytlgphpjialbaoaa.Base
set_option linter.unusedVariables false
set_option linter.unusedSimpArgs false

/-- What a reader holds: at most 2000 bytes. -/
def Bts (s : List Int) : Prop := (∀ x ∈ s, 0 ≤ x ∧ x ≤ 255) ∧ s.length ≤ 2000

theorem pick_ok {s : List Int} (hs : Bts s) (p n : Int) (k : Nat) (hp : 0 ≤ p) (hp2 : p ≤ 1000000) :
    ∃ v, spec_reader_pick.f (k + 1) s p n = some (v, p + 1) ∧ 0 ≤ v ∧ (1 ≤ n → v < n) := by
  obtain ⟨hs1, hs2⟩ := hs
  unfold spec_reader_pick.f
  have e1 : wrap64 (p + 1) = p + 1 := w64 (by omega) (by omega)
  rw [e1]
  by_cases hn : n < 1
  · rw [if_pos hn]
    exact ⟨0, by simp only [spec_reader_pick.j0, if_true], Int.le_refl _, fun h => by omega⟩
  · rw [if_neg hn]
    by_cases h0 : s.length = 0
    · have hb : ((s.length : Int) == 0) = true := by rw [h0]; rfl
      rw [hb]
      exact ⟨0, by simp only [spec_reader_pick.j0, if_true], Int.le_refl _, fun h => by omega⟩
    · have hb : ((s.length : Int) == 0) = false := by simp; intro h; exact h0 (by rw [h]; rfl)
      rw [hb]
      have e2 : wrap64 (p + 1 - 1) = p := by rw [w64 (by omega) (by omega)]; omega
      have hL : (0 : Int) < s.length := by omega
      simp only [spec_reader_pick.j0]
      rw [if_neg (by simp), e2]
      by_cases h1 : p < (s.length : Int)
      · rw [if_pos h1, if_pos hp, if_neg (by omega)]
        have hr := rd_rng hs1 (by omega) (by omega) p
        rw [w64 (x := rd s p) (by omega) (by omega), tmod_nn hr.1]
        exact ⟨_, rfl, Int.emod_nonneg _ (by omega), fun _ => Int.emod_lt_of_pos _ (by omega)⟩
      · rw [if_neg h1, if_neg (by omega)]
        have e3 : wrap64 (wrap64 (p * 7) + 3) = p * 7 + 3 := by rw [w64 (x := p * 7) (by omega) (by omega), w64 (by omega) (by omega)]
        rw [e3, tmod_nn hp, tmod_nn (a := p * 7 + 3) (by omega), tdiv_nn hp]
        have q0 := Int.emod_nonneg p (b := (s.length : Int)) (by omega)
        have q1 := Int.emod_lt_of_pos p hL
        have q2 := Int.emod_nonneg (p * 7 + 3) (b := (s.length : Int)) (by omega)
        have q3 := Int.emod_lt_of_pos (p * 7 + 3) hL
        have q4 := ediv_rng hp hL
        rw [if_pos q0, if_pos q1, if_pos q2, if_pos q3, if_neg (by omega)]
        have r1 := rd_rng hs1 (by omega) (by omega) (p % (s.length : Int))
        have r2 := rd_rng hs1 (by omega) (by omega) ((p * 7 + 3) % (s.length : Int))
        generalize rd s (p % (s.length : Int)) = u1 at r1 ⊢
        generalize rd s ((p * 7 + 3) % (s.length : Int)) = u2 at r2 ⊢
        generalize p / (s.length : Int) = u3 at q4 ⊢
        have ey : wrap64 (wrap64 (wrap64 (wrap64 (wrap64 u1 * 131) + wrap64 (wrap64 u2 * 1117)) + wrap64 (p * 29)) + wrap64 (wrap64 u3 * 53)) = u1 * 131 + u2 * 1117 + p * 29 + u3 * 53 := by
          rw [w64 (x := u1) (by omega) (by omega), w64 (x := u2) (by omega) (by omega), w64 (x := u3) (by omega) (by omega), w64 (x := u1 * 131) (by omega) (by omega), w64 (x := u2 * 1117) (by omega) (by omega), w64 (x := p * 29) (by omega) (by omega), w64 (x := u3 * 53) (by omega) (by omega), w64 (x := u1 * 131 + u2 * 1117) (by omega) (by omega), w64 (x := u1 * 131 + u2 * 1117 + p * 29) (by omega) (by omega), w64 (by omega) (by omega)]
        rw [ey]
        have hy0 : 0 ≤ u1 * 131 + u2 * 1117 + p * 29 + u3 * 53 := by omega
        have hy1 : u1 * 131 + u2 * 1117 + p * 29 + u3 * 53 < 4611686018427387904 := by omega
        generalize u1 * 131 + u2 * 1117 + p * 29 + u3 * 53 = y at hy0 hy1 ⊢
        rw [tdiv_nn hy0]
        have hz := ediv_rng hy0 (b := 64) (by omega)
        rw [w64 (x := y / 64) (by omega) (by omega)]
        have hx := xor_nn hy0 hy1 hz.1 (by omega)
        rw [tmod_nn hx]
        exact ⟨_, rfl, Int.emod_nonneg _ (by omega), fun _ => Int.emod_lt_of_pos _ (by omega)⟩

theorem one_ok {s : List Int} (hs : Bts s) (p : Int) (l : List Int) (k : Nat) (hl : 0 < l.length) (hp : 0 ≤ p) (hp2 : p ≤ 1000000) :
    ∃ v, spec_reader_one.f (k + 1) s p l = some (v, p + 1) ∧ v ∈ l := by
  obtain ⟨v, h, h0, h1⟩ := pick_ok hs p (l.length : Int) k hp hp2
  have h2 := h1 (by omega)
  refine ⟨rd l v, ?_, ?_⟩
  · unfold spec_reader_one.f
    rw [h]
    simp only [Option.bind_some]
    rw [if_pos h0, if_pos h2]
  · unfold rd
    rw [List.getD_eq_getElem?_getD, List.getElem?_eq_getElem (by omega)]
    exact List.getElem_mem _

theorem new_ok {l : List Int} (h : ∀ x ∈ l, 0 ≤ x ∧ x ≤ 255) : ∃ s, spec_newReader.f l = some (s, 0) ∧ Bts s := by
  unfold spec_newReader.f
  by_cases h1 : (l.length : Int) > 2000
  · rw [if_pos h1, if_pos (by omega)]
    exact ⟨_, rfl, fun x hx => h x (List.mem_of_mem_take hx), by rw [List.length_take]; omega⟩
  · rw [if_neg h1]
    exact ⟨_, rfl, h, by omega⟩

theorem pick_okk {s : List Int} (hs : Bts s) (p n : Int) (k : Nat) (hk : 1 ≤ k) (hp : 0 ≤ p) (hp2 : p ≤ 1000000) :
    ∃ v, spec_reader_pick.f k s p n = some (v, p + 1) ∧ 0 ≤ v ∧ (1 ≤ n → v < n) := by
  obtain ⟨m, rfl⟩ : ∃ m, k = m + 1 := ⟨k - 1, by omega⟩
  exact pick_ok hs p n m hp hp2

theorem one_okk {s : List Int} (hs : Bts s) (p : Int) (l : List Int) (k : Nat) (hk : 1 ≤ k) (hl : 0 < l.length) (hp : 0 ≤ p) (hp2 : p ≤ 1000000) :
    ∃ v, spec_reader_one.f k s p l = some (v, p + 1) ∧ v ∈ l := by
  obtain ⟨m, rfl⟩ : ∃ m, k = m + 1 := ⟨k - 1, by omega⟩
  exact one_ok hs p l m hl hp hp2

abbrev Sp := S26

theorem wsucc {i : Nat} (h : i < 1152921504606846976) : wrap64 ((i : Int) + 1) = ((i + 1 : Nat) : Int) := by
  rw [w64 (by omega) (by omega)]; omega

theorem rdS {l : List Sp} {i : Nat} (h : i < l.length) : rd_T26 l (i : Int) = l[i] := by
  unfold rd_T26
  rw [Int.toNat_natCast, List.getD_eq_getElem?_getD, List.getElem?_eq_getElem h]; rfl

theorem inRange_eq (a b c : Int) : spec_inRange.f a b c = some (decide (b ≤ a ∧ a ≤ c)) := by
  unfold spec_inRange.f
  by_cases h : b ≤ a
  · rw [if_pos h]; simp [h]
  · rw [if_neg h]; simp [h]

theorem within_eq (a b c : Int) : impl_within.f a b c = some (decide (b ≤ a ∧ a ≤ c)) := by
  unfold impl_within.f
  by_cases h : b ≤ a
  · rw [if_pos h]; simp [h]
  · rw [if_neg h]; simp [h]

/-- Valid spans. -/
def okS (s : Sp) : Bool := spanOk s.f0 s.f1
def vld (l : List Sp) : Bool := decide (1 ≤ l.length ∧ l.length ≤ 7) && l.all okS
theorem iValid_eq (l : List Sp) : impl_ValidSpans.f l = some (vld l) := rfl

theorem okS_iff (s : Sp) : okS s = true ↔ -1000000 ≤ s.f0 ∧ s.f0 ≤ 1000000 ∧ s.f0 ≤ s.f1 ∧ s.f1 ≤ 1000000 := by
  unfold okS spanOk; simp

theorem vld_iff (l : List Sp) : vld l = true ↔ (1 ≤ l.length ∧ l.length ≤ 7) ∧ ∀ s ∈ l, okS s = true := by
  unfold vld; rw [Bool.and_eq_true, decide_eq_true_eq, List.all_eq_true]

theorem sSpan_eq (a b : Int) : spec_validSpan.f a b = some (spanOk a b) := by
  unfold spec_validSpan.f spanOk
  simp only [inRange_eq, Option.bind_some]
  by_cases h1 : -1000000 ≤ a <;> by_cases h2 : a ≤ 1000000 <;> by_cases h3 : a ≤ b <;> simp [h1, h2, h3]

theorem sValid_l0 (l : List Sp) (hl : l.length ≤ 1152921504606846975) : ∀ (k i : Nat), i ≤ l.length → l.length - i < k →
    spec_validSpans.l0 k l (i : Int) = some ((l.drop i).all okS && decide (1 ≤ l.length ∧ l.length ≤ 7)) := by
  intro k
  induction k with
  | zero => intro i _ hk; omega
  | succ k ih =>
    intro i hi hk
    simp only [spec_validSpans.l0]
    by_cases hlt : i < l.length
    · rw [if_pos (by omega), if_pos (by omega), rdS hlt, sSpan_eq]
      simp only [Option.bind_some]
      rw [List.drop_eq_getElem_cons hlt, List.all_cons, wsucc (by omega)]
      cases ho : spanOk l[i].f0 l[i].f1 with
      | true => rw [if_pos rfl, ih (i + 1) (by omega) (by omega)]; unfold okS; rw [ho]; rfl
      | false => rw [if_neg (by decide)]; unfold okS; rw [ho]; rfl
    · have e : i = l.length := by omega
      have ed : decide (1 ≤ (l.length : Int) ∧ (l.length : Int) ≤ 7) = decide (1 ≤ l.length ∧ l.length ≤ 7) := by rw [decide_eq_decide]; omega
      rw [if_neg (by omega), inRange_eq, e, List.drop_length, ed]
      rfl

theorem sValid_eq {l : List Sp} (hl : l.length ≤ 1152921504606846975) {k : Nat} (hk : l.length < k) : spec_validSpans.f k l = some (vld l) := by
  unfold spec_validSpans.f vld
  have h := sValid_l0 l hl k 0 (Nat.zero_le _) (by omega)
  rw [List.drop_zero] at h
  rw [show ((0 : Nat) : Int) = 0 from rfl] at h
  rw [h, Bool.and_comm]

/-- How many spans have a number. -/
def hasB (s : Sp) (n : Int) : Bool := decide (s.f0 ≤ n ∧ n ≤ s.f1)
def cnt : List Sp → Int → Int
  | [], _ => 0
  | s :: l, n => (if hasB s n = true then 1 else 0) + cnt l n

theorem cnt_rng : ∀ (l : List Sp) (n : Int), 0 ≤ cnt l n ∧ cnt l n ≤ l.length
  | [], n => ⟨Int.le_refl _, Int.le_refl _⟩
  | s :: l, n => by
    have h := cnt_rng l n
    unfold cnt
    rw [List.length_cons]
    split <;> omega

theorem iHas_eq (a b n : Int) : impl_Span_has.f a b n = some (decide (a ≤ n ∧ n ≤ b)) := by
  unfold impl_Span_has.f
  rw [within_eq]; simp only [Option.bind_some]

theorem iVotes_l0 (l : List Sp) (hl : l.length ≤ 1152921504606846975) (n : Int) : ∀ (k i : Nat) (acc : Int), i ≤ l.length → l.length - i < k → 0 ≤ acc → acc ≤ i →
    impl_votesFor.l0 k n acc l (l.length : Int) (i : Int) = some (acc + cnt (l.drop i) n) := by
  intro k
  induction k with
  | zero => intro i _ _ hk; omega
  | succ k ih =>
    intro i acc hi hk h0 h1
    simp only [impl_votesFor.l0]
    by_cases hlt : i < l.length
    · rw [if_pos (by omega), if_pos (by omega), if_pos (by omega), rdS hlt, iHas_eq]
      simp only [Option.bind_some]
      rw [List.drop_eq_getElem_cons hlt, wsucc (by omega), w64 (x := acc + 1) (by omega) (by omega)]
      unfold cnt
      cases ho : hasB l[i] n with
      | true =>
        have ho' : decide (l[i].f0 ≤ n ∧ n ≤ l[i].f1) = true := ho
        rw [if_pos ho', if_pos rfl, ih (i + 1) (acc + 1) (by omega) (by omega) (by omega) (by omega), Int.add_assoc]
      | false =>
        have ho' : decide (l[i].f0 ≤ n ∧ n ≤ l[i].f1) = false := ho
        rw [if_neg (by rw [ho']; decide), if_neg (by decide), ih (i + 1) acc (by omega) (by omega) (by omega) (by omega), Int.zero_add]
    · have e : i = l.length := by omega
      rw [if_neg (by omega), e, List.drop_length]
      unfold cnt
      rw [Int.add_zero]

theorem iVotes_eq {l : List Sp} (hl : l.length ≤ 1152921504606846975) {k : Nat} (hk : l.length < k) (n : Int) : impl_votesFor.f k l n = some (cnt l n) := by
  unfold impl_votesFor.f
  have h := iVotes_l0 l hl n k 0 0 (Nat.zero_le _) (by omega) (by omega) (by omega)
  rw [List.drop_zero, Int.zero_add] at h
  exact h

theorem toInt_eq (b : Bool) : spec_toInt.f b = some (if b = true then 1 else 0) := by
  unfold spec_toInt.f; cases b <;> rfl

theorem sVotes_l0 (l : List Sp) (hl : l.length ≤ 1152921504606846975) (n : Int) : ∀ (k i : Nat) (acc : Int), i ≤ l.length → l.length - i < k → 0 ≤ acc → acc ≤ i →
    spec_votes.l0 k l n acc (i : Int) = some (acc + cnt (l.drop i) n) := by
  intro k
  induction k with
  | zero => intro i _ _ hk; omega
  | succ k ih =>
    intro i acc hi hk h0 h1
    simp only [spec_votes.l0]
    by_cases hlt : i < l.length
    · rw [if_pos (by omega), if_pos (by omega), rdS hlt, inRange_eq]
      simp only [Option.bind_some]
      rw [toInt_eq]
      simp only [Option.bind_some]
      rw [List.drop_eq_getElem_cons hlt, wsucc (by omega)]
      have e : (if decide (l[i].f0 ≤ n ∧ n ≤ l[i].f1) = true then (1 : Int) else 0) = (if hasB l[i] n = true then 1 else 0) := rfl
      rw [e]
      have hb : 0 ≤ (if hasB l[i] n = true then (1 : Int) else 0) ∧ (if hasB l[i] n = true then (1 : Int) else 0) ≤ 1 := by split <;> omega
      rw [cnt.eq_2]
      generalize (if hasB l[i] n = true then (1 : Int) else 0) = b at hb ⊢
      rw [w64 (x := acc + b) (by omega) (by omega), ih (i + 1) (acc + b) (by omega) (by omega) (by omega) (by omega), Int.add_assoc]
    · have e : i = l.length := by omega
      rw [if_neg (by omega), e, List.drop_length]
      unfold cnt
      rw [Int.add_zero]

theorem sVotes_eq {l : List Sp} (hl : l.length ≤ 1152921504606846975) {k : Nat} (hk : l.length < k) (n : Int) : spec_votes.f k l n = some (cnt l n) := by
  unfold spec_votes.f
  have h := sVotes_l0 l hl n k 0 0 (Nat.zero_le _) (by omega) (by omega) (by omega)
  rw [List.drop_zero, Int.zero_add] at h
  exact h

/-- The greatest number of votes for the Low of a span of a list, and m. -/
def mst (a : List Sp) : List Sp → Int → Int
  | [], m => m
  | s :: l, m => mst a l (mx m (cnt a s.f0))
/-- The program's own: the most votes, and the least Low that has them. -/
def mp (a : List Sp) : List Sp → Int → Int → Int × Int
  | [], m, lo => (m, lo)
  | s :: l, m, lo => if cnt a s.f0 > m then mp a l (cnt a s.f0) s.f0 else if cnt a s.f0 = m ∧ s.f0 < lo then mp a l m s.f0 else mp a l m lo

theorem mp_fst (a : List Sp) : ∀ (l : List Sp) (m lo : Int), (mp a l m lo).1 = mst a l m
  | [], m, lo => rfl
  | s :: l, m, lo => by
    unfold mp mst
    by_cases h : cnt a s.f0 > m
    · rw [if_pos h, mp_fst a l]; congr 1; unfold mx; rw [if_pos (by omega)]
    · have e : mx m (cnt a s.f0) = m := by unfold mx; rw [if_neg (by omega)]
      rw [if_neg h, e]
      split <;> exact mp_fst a l _ _

theorem sMost_l0 (l : List Sp) (hl : l.length ≤ 1152921504606846975) : ∀ (k i : Nat) (m : Int), i ≤ l.length → 2 * l.length - i < k →
    spec_mostVotes.l0 k l m (i : Int) = some (mst l (l.drop i) m) := by
  intro k
  induction k with
  | zero => intro i _ _ hk; omega
  | succ k ih =>
    intro i m hi hk
    simp only [spec_mostVotes.l0]
    by_cases hlt : i < l.length
    · rw [if_pos (by omega), if_pos (by omega), rdS hlt, sVotes_eq hl (by omega)]
      simp only [Option.bind_some]
      rw [wsucc (by omega), ih (i + 1) _ (by omega) (by omega), List.drop_eq_getElem_cons hlt]
      rfl
    · have e : i = l.length := by omega
      rw [if_neg (by omega), e, List.drop_length]
      rfl

theorem sMost_eq {l : List Sp} (hl : l.length ≤ 1152921504606846975) {k : Nat} (hk : 2 * l.length < k) : spec_mostVotes.f k l = some (mst l l 0) := by
  unfold spec_mostVotes.f
  have h := sMost_l0 l hl k 0 0 (Nat.zero_le _) (by omega)
  rw [List.drop_zero] at h
  exact h

theorem iMost_l0 (l : List Sp) (hl : l.length ≤ 1152921504606846975) : ∀ (k i : Nat) (m lo : Int), i ≤ l.length → 2 * l.length - i < k →
    impl_mostVotes.l0 k l m lo l (l.length : Int) (i : Int) = some (mp l (l.drop i) m lo) := by
  intro k
  induction k with
  | zero => intro i _ _ _ hk; omega
  | succ k ih =>
    intro i m lo hi hk
    simp only [impl_mostVotes.l0]
    by_cases hlt : i < l.length
    · rw [if_pos (by omega), if_pos (by omega), if_pos (by omega), rdS hlt, iVotes_eq hl (by omega)]
      simp only [Option.bind_some]
      rw [wsucc (by omega), List.drop_eq_getElem_cons hlt]
      unfold mp
      by_cases h1 : cnt l l[i].f0 > m
      · rw [if_pos h1, if_pos h1, ih (i + 1) _ _ (by omega) (by omega)]
      · rw [if_neg h1, if_neg h1]
        by_cases h2 : cnt l l[i].f0 = m
        · rw [if_pos h2]
          by_cases h3 : l[i].f0 < lo
          · rw [if_pos h3, if_pos ⟨h2, h3⟩, ih (i + 1) _ _ (by omega) (by omega), h2]
          · rw [if_neg h3, if_neg (fun e => h3 e.2), ih (i + 1) _ _ (by omega) (by omega)]
        · rw [if_neg h2, if_neg (fun e => h2 e.1), ih (i + 1) _ _ (by omega) (by omega)]
    · have e : i = l.length := by omega
      rw [if_neg (by omega), e, List.drop_length]
      rfl

theorem iMost_eq {l : List Sp} (hl : l.length ≤ 1152921504606846975) {k : Nat} (hk : 2 * l.length < k) : impl_mostVotes.f k l = some (mp l l 0 0) := by
  unfold impl_mostVotes.f
  have h := iMost_l0 l hl k 0 0 0 (Nat.zero_le _) (by omega)
  rw [List.drop_zero] at h
  exact h

theorem cnt_append : ∀ (a b : List Sp) (n : Int), cnt (a ++ b) n = cnt a n + cnt b n
  | [], b, n => by show cnt b n = 0 + cnt b n; omega
  | s :: a, b, n => by
    show (if hasB s n = true then 1 else 0) + cnt (a ++ b) n = (if hasB s n = true then 1 else 0) + cnt a n + cnt b n
    rw [cnt_append a b n]; omega

theorem cnt_mono {m n : Int} : ∀ {l : List Sp}, (∀ s ∈ l, hasB s n = true → hasB s m = true) → cnt l n ≤ cnt l m
  | [], _ => Int.le_refl _
  | s :: l, h => by
    have h1 := cnt_mono (l := l) (fun t ht => h t (List.mem_cons_of_mem _ ht))
    have h2 := h s List.mem_cons_self
    unfold cnt
    by_cases hs : hasB s n = true
    · rw [if_pos hs, if_pos (h2 hs)]; omega
    · rw [if_neg hs]; split <;> omega

theorem cnt_pos_of {n : Int} : ∀ {l : List Sp}, (∃ s ∈ l, hasB s n = true) → 1 ≤ cnt l n
  | [], h => by obtain ⟨s, hs, _⟩ := h; simp at hs
  | t :: l, h => by
    have hr := cnt_rng l n
    unfold cnt
    by_cases ht : hasB t n = true
    · rw [if_pos ht]; omega
    · rw [if_neg ht]
      obtain ⟨s, hs, hb⟩ := h
      have hs' : s ∈ l := by
        rcases List.mem_cons.1 hs with rfl | hs
        · exact absurd hb ht
        · exact hs
      have := cnt_pos_of (n := n) (l := l) ⟨s, hs', hb⟩
      omega

theorem has_of_pos {n : Int} : ∀ {l : List Sp}, 1 ≤ cnt l n → ∃ s ∈ l, hasB s n = true
  | [], h => by unfold cnt at h; omega
  | t :: l, h => by
    by_cases ht : hasB t n = true
    · exact ⟨t, List.mem_cons_self, ht⟩
    · unfold cnt at h
      rw [if_neg ht] at h
      obtain ⟨s, hs, hb⟩ := has_of_pos (n := n) (l := l) (by omega)
      exact ⟨s, List.mem_cons_of_mem _ hs, hb⟩

theorem own_low {s : Sp} (h : okS s = true) : hasB s s.f0 = true := decide_eq_true ⟨Int.le_refl _, ((okS_iff s).1 h).2.2.1⟩
theorem own_high {s : Sp} (h : okS s = true) : hasB s s.f1 = true := decide_eq_true ⟨((okS_iff s).1 h).2.2.1, Int.le_refl _⟩

/-- Of the elements with a property one has the greatest Low. -/
theorem top_of {p : Sp → Prop} : ∀ {l : List Sp}, (∃ s ∈ l, p s) → ∃ s ∈ l, p s ∧ ∀ t ∈ l, p t → t.f0 ≤ s.f0
  | [], h => by obtain ⟨s, hs, _⟩ := h; simp at hs
  | a :: l, h => by
    by_cases hl : ∃ s ∈ l, p s
    · obtain ⟨s, hs, hp, hm⟩ := top_of hl
      by_cases ha : p a ∧ s.f0 < a.f0
      · refine ⟨a, List.mem_cons_self, ha.1, fun t ht hpt => ?_⟩
        rcases List.mem_cons.1 ht with rfl | ht
        · exact Int.le_refl _
        · have := hm t ht hpt; omega
      · refine ⟨s, List.mem_cons_of_mem _ hs, hp, fun t ht hpt => ?_⟩
        rcases List.mem_cons.1 ht with rfl | ht
        · by_cases hlt : s.f0 < t.f0
          · exact absurd ⟨hpt, hlt⟩ ha
          · omega
        · exact hm t ht hpt
    · obtain ⟨s, hs, hp⟩ := h
      rcases List.mem_cons.1 hs with rfl | hs
      · refine ⟨s, List.mem_cons_self, hp, fun t ht hpt => ?_⟩
        rcases List.mem_cons.1 ht with rfl | ht
        · exact Int.le_refl _
        · exact absurd ⟨t, ht, hpt⟩ hl
      · exact absurd ⟨s, hs, hp⟩ hl

/-- No number has more votes than the best Low of the spans that have it. -/
theorem cnt_le_low {l : List Sp} {n : Int} (h : 1 ≤ cnt l n) : ∃ s ∈ l, hasB s n = true ∧ cnt l n ≤ cnt l s.f0 := by
  obtain ⟨s, hs, hb, hm⟩ := top_of (p := fun s => hasB s n = true) (has_of_pos h)
  refine ⟨s, hs, hb, cnt_mono (fun t ht htn => ?_)⟩
  have h1 := hm t ht htn
  have hb' := of_decide_eq_true hb
  have htn' := of_decide_eq_true htn
  exact decide_eq_true ⟨by omega, by omega⟩

theorem mst_ge (a : List Sp) : ∀ (l : List Sp) (m : Int), m ≤ mst a l m ∧ ∀ s ∈ l, cnt a s.f0 ≤ mst a l m
  | [], m => ⟨Int.le_refl _, fun s hs => by simp at hs⟩
  | t :: l, m => by
    obtain ⟨h1, h2⟩ := mst_ge a l (mx m (cnt a t.f0))
    have hx : m ≤ mx m (cnt a t.f0) ∧ cnt a t.f0 ≤ mx m (cnt a t.f0) := by unfold mx; split <;> omega
    unfold mst
    refine ⟨by omega, fun s hs => ?_⟩
    rcases List.mem_cons.1 hs with rfl | hs
    · omega
    · exact h2 s hs

theorem mst_at (a : List Sp) : ∀ (l : List Sp) (m : Int), mst a l m = m ∨ ∃ s ∈ l, mst a l m = cnt a s.f0
  | [], m => .inl rfl
  | t :: l, m => by
    unfold mst
    rcases mst_at a l (mx m (cnt a t.f0)) with h | ⟨s, hs, h⟩
    · rw [h]
      unfold mx
      split
      · exact .inr ⟨t, List.mem_cons_self, rfl⟩
      · exact .inl rfl
    · exact .inr ⟨s, List.mem_cons_of_mem _ hs, h⟩

theorem most_ge (l : List Sp) (n : Int) : cnt l n ≤ mst l l 0 := by
  obtain ⟨h1, h2⟩ := mst_ge l l 0
  by_cases h : 1 ≤ cnt l n
  · obtain ⟨s, hs, _, hle⟩ := cnt_le_low h
    have := h2 s hs
    omega
  · omega

theorem most_at {l : List Sp} (h : vld l = true) : ∃ s ∈ l, mst l l 0 = cnt l s.f0 := by
  obtain ⟨⟨h1, _⟩, h2⟩ := (vld_iff l).1 h
  rcases mst_at l l 0 with h0 | h0
  · match l, h1 with
    | s :: l', _ =>
      have hs : s ∈ s :: l' := List.mem_cons_self
      have hp := cnt_pos_of (l := s :: l') (n := s.f0) ⟨s, hs, own_low (h2 s hs)⟩
      have hm := most_ge (s :: l') s.f0
      omega
  · exact h0

theorem most_pos {l : List Sp} (h : vld l = true) : 1 ≤ mst l l 0 := by
  obtain ⟨s, hs, e⟩ := most_at h
  rw [e]
  exact cnt_pos_of ⟨s, hs, own_low (((vld_iff l).1 h).2 s hs)⟩

/-- The least Low with M votes, and x; the least High of the spans that have a number, and x. -/
def sl (a : List Sp) (M : Int) : List Sp → Int → Int
  | [], x => x
  | s :: l, x => if cnt a s.f0 = M then sl a M l (mn x s.f0) else sl a M l x
def hv (lo : Int) : List Sp → Int → Int
  | [], x => x
  | s :: l, x => if hasB s lo = true then hv lo l (mn x s.f1) else hv lo l x

theorem mst_le (a l : List Sp) (m : Int) : m ≤ mst a l m := (mst_ge a l m).1

theorem mp_snd (a : List Sp) : ∀ (l : List Sp) (m lo : Int), (∀ s ∈ l, s.f0 ≤ 1000000) →
    (mp a l m lo).2 = if mst a l m = m then sl a (mst a l m) l lo else sl a (mst a l m) l 1000000
  | [], m, lo, _ => by show lo = if m = m then lo else 1000000; rw [if_pos rfl]
  | s :: l, m, lo, h => by
    have h' : ∀ t ∈ l, t.f0 ≤ 1000000 := fun t ht => h t (List.mem_cons_of_mem _ ht)
    have hs := h s List.mem_cons_self
    unfold mp mst
    by_cases h1 : cnt a s.f0 > m
    · have e : mx m (cnt a s.f0) = cnt a s.f0 := by unfold mx; rw [if_pos (by omega)]
      have hM := mst_le a l (cnt a s.f0)
      have e2 : mn 1000000 s.f0 = s.f0 := by unfold mn; split <;> omega
      rw [if_pos h1, mp_snd a l _ _ h', e, if_neg (c := mst a l (cnt a s.f0) = m) (by omega)]
      by_cases h2 : mst a l (cnt a s.f0) = cnt a s.f0
      · rw [if_pos h2, sl.eq_2, if_pos h2.symm, e2]
      · rw [if_neg h2, sl.eq_2, if_neg (fun q => h2 q.symm)]
    · have e : mx m (cnt a s.f0) = m := by unfold mx; rw [if_neg (by omega)]
      have hM := mst_le a l m
      rw [if_neg h1, e]
      by_cases h2 : cnt a s.f0 = m ∧ s.f0 < lo
      · have e2 : mn lo s.f0 = s.f0 := by unfold mn; rw [if_pos h2.2]
        rw [if_pos h2, mp_snd a l _ _ h']
        by_cases h3 : mst a l m = m
        · rw [if_pos h3, if_pos h3, sl.eq_2, if_pos (by rw [h3]; exact h2.1), e2]
        · rw [if_neg h3, if_neg h3, sl.eq_2, if_neg (by rw [h2.1]; exact fun q => h3 q.symm)]
      · rw [if_neg h2, mp_snd a l _ _ h']
        by_cases h3 : mst a l m = m
        · rw [if_pos h3, if_pos h3, sl.eq_2]
          by_cases h4 : cnt a s.f0 = mst a l m
          · have e2 : mn lo s.f0 = lo := by unfold mn; rw [if_neg (fun q => h2 ⟨by omega, q⟩)]
            rw [if_pos h4, e2]
          · rw [if_neg h4]
        · rw [if_neg h3, if_neg h3, sl.eq_2, if_neg (by omega)]

def LO (l : List Sp) : Int := sl l (mst l l 0) l 1000000
def HI (l : List Sp) : Int := hv (LO l) l 1000000
/-- The sources agree. -/
def agB (l : List Sp) : Bool := vld l && decide ((l.length : Int) < 2 * mst l l 0)
def AG (l : List Sp) : Int × Int × Bool := if agB l = true then (LO l, HI l, true) else (0, 0, false)
theorem AG_t {l : List Sp} (h : agB l = true) : AG l = (LO l, HI l, true) := by unfold AG; rw [if_pos h]
theorem AG_f {l : List Sp} (h : ¬ agB l = true) : AG l = (0, 0, false) := by unfold AG; rw [if_neg h]
theorem agB_iff (l : List Sp) : agB l = true ↔ vld l = true ∧ (l.length : Int) < 2 * mst l l 0 := by
  unfold agB; rw [Bool.and_eq_true, decide_eq_true_eq]

theorem mp_lo {l : List Sp} (h : vld l = true) : (mp l l 0 0).2 = LO l := by
  have h1 : ∀ s ∈ l, s.f0 ≤ 1000000 := fun s hs => ((okS_iff s).1 (((vld_iff l).1 h).2 s hs)).2.1
  have h2 := most_pos h
  rw [mp_snd l l 0 0 h1, if_neg (by omega)]
  rfl

theorem iHi_l0 (l : List Sp) (hl : l.length ≤ 1152921504606846975) (lo z : Int) : ∀ (k i : Nat) (x : Int), i ≤ l.length → l.length - i < k →
    impl_AgreedSpan.l0 k lo l (l.length : Int) (i : Int) z x = some (z, hv lo (l.drop i) x, true) := by
  intro k
  induction k with
  | zero => intro i _ _ hk; omega
  | succ k ih =>
    intro i x hi hk
    simp only [impl_AgreedSpan.l0]
    by_cases hlt : i < l.length
    · rw [if_pos (by omega), if_pos (by omega), if_pos (by omega), rdS hlt, iHas_eq]
      simp only [Option.bind_some]
      rw [wsucc (by omega), List.drop_eq_getElem_cons hlt, hv.eq_2]
      cases ho : hasB l[i] lo with
      | true =>
        have ho' : decide (l[i].f0 ≤ lo ∧ lo ≤ l[i].f1) = true := ho
        rw [if_pos ho', if_pos rfl, ih (i + 1) _ (by omega) (by omega)]
      | false =>
        have ho' : decide (l[i].f0 ≤ lo ∧ lo ≤ l[i].f1) = false := ho
        rw [if_neg (by rw [ho']; decide), if_neg (by decide), ih (i + 1) _ (by omega) (by omega)]
    · have e : i = l.length := by omega
      rw [if_neg (by omega), e, List.drop_length]
      rfl

theorem iAG_eq {l : List Sp} (hl : l.length ≤ 1048577) {k : Nat} (hk : 2 * l.length < k) : impl_AgreedSpan.f k l = some (AG l) := by
  unfold impl_AgreedSpan.f
  rw [iValid_eq]; simp only [Option.bind_some]
  by_cases hv0 : vld l = true
  · rw [if_pos hv0, iMost_eq (by omega) hk]
    simp only [Option.bind_some]
    rw [mp_fst]
    obtain ⟨s, _, hs⟩ := most_at hv0
    have hr := cnt_rng l s.f0
    rw [w64 (by omega) (by omega)]
    by_cases hm : (l.length : Int) < 2 * mst l l 0
    · rw [if_neg (by omega), mp_lo hv0, AG_t ((agB_iff l).2 ⟨hv0, hm⟩)]
      have h := iHi_l0 l (by omega) (LO l) (LO l) k 0 1000000 (Nat.zero_le _) (by omega)
      rw [List.drop_zero] at h
      exact h
    · rw [if_pos (by omega), AG_f (fun h => hm ((agB_iff l).1 h).2)]
  · rw [if_neg hv0, AG_f (fun h => hv0 ((agB_iff l).1 h).1)]

theorem sHi_l1 (l : List Sp) (hl : l.length ≤ 1152921504606846975) (lo : Int) : ∀ (d k i : Nat) (x : Int), i ≤ l.length → l.length - i = d → d < k →
    spec_agreed.l1 k l lo x (i : Int) = some (lo, hv lo (l.drop i) x) := by
  intro d
  induction d with
  | zero =>
    intro k i x hi hd hk
    obtain ⟨k, rfl⟩ : ∃ m, k = m + 1 := ⟨k - 1, by omega⟩
    rw [spec_agreed.l1]
    have e : i = l.length := by omega
    rw [if_neg (by omega), e, List.drop_length]
    rfl
  | succ d ih =>
    intro k i x hi hd hk
    obtain ⟨k, rfl⟩ : ∃ m, k = m + 1 := ⟨k - 1, by omega⟩
    have hlt : i < l.length := by omega
    rw [spec_agreed.l1]
    rw [if_pos (by omega), if_pos (by omega), rdS hlt, List.drop_eq_getElem_cons hlt, hv.eq_2, wsucc (by omega)]
    by_cases hge : l[i].f1 ≥ lo
    · rw [if_pos hge, inRange_eq]
      simp only [Option.bind_some]
      cases ho : hasB l[i] lo with
      | true =>
        have ho' : decide (l[i].f0 ≤ lo ∧ lo ≤ l[i].f1) = true := ho
        rw [if_pos ho', if_pos rfl, ih k (i + 1) _ (by omega) (by omega) (by omega)]
      | false =>
        have ho' : decide (l[i].f0 ≤ lo ∧ lo ≤ l[i].f1) = false := ho
        rw [if_neg (by rw [ho']; decide), if_neg (by decide), ih k (i + 1) _ (by omega) (by omega) (by omega)]
    · have e : hasB l[i] lo = false := decide_eq_false (fun q => hge q.2)
      rw [if_neg hge, e, if_neg (by decide), ih k (i + 1) _ (by omega) (by omega) (by omega)]

theorem sLo_l0 (l : List Sp) (hl : l.length ≤ 1152921504606846975) (M : Int) : ∀ (d k i : Nat) (x : Int), i ≤ l.length → l.length - i = d → d + 2 * l.length + 1 < k →
    spec_agreed.l0 k l M x (i : Int) = some (sl l M (l.drop i) x, hv (sl l M (l.drop i) x) l 1000000) := by
  intro d
  induction d with
  | zero =>
    intro k i x hi hd hk
    obtain ⟨k, rfl⟩ : ∃ m, k = m + 1 := ⟨k - 1, by omega⟩
    rw [spec_agreed.l0]
    have e : i = l.length := by omega
    rw [if_neg (by omega), e, List.drop_length]
    have h := sHi_l1 l hl x l.length k 0 1000000 (Nat.zero_le _) (by omega) (by omega)
    rw [List.drop_zero] at h
    exact h
  | succ d ih =>
    intro k i x hi hd hk
    obtain ⟨k, rfl⟩ : ∃ m, k = m + 1 := ⟨k - 1, by omega⟩
    have hlt : i < l.length := by omega
    rw [spec_agreed.l0]
    rw [if_pos (by omega), if_pos (by omega), rdS hlt, sVotes_eq hl (by omega)]
    simp only [Option.bind_some]
    rw [wsucc (by omega), List.drop_eq_getElem_cons hlt, sl.eq_2]
    by_cases h1 : cnt l l[i].f0 = M
    · rw [if_pos h1, if_pos h1, ih k (i + 1) _ (by omega) (by omega) (by omega)]
    · rw [if_neg h1, if_neg h1, ih k (i + 1) _ (by omega) (by omega) (by omega)]

theorem sAG_eq {l : List Sp} (hl : l.length ≤ 1048577) {k : Nat} (hk : 3 * l.length + 3 < k) : spec_AgreedSpan.f k l = some (AG l) := by
  unfold spec_AgreedSpan.f
  rw [sValid_eq (by omega) (by omega)]; simp only [Option.bind_some]
  by_cases hv0 : vld l = true
  · rw [if_pos hv0, sMost_eq (by omega) (by omega)]
    simp only [Option.bind_some]
    obtain ⟨s, _, hs⟩ := most_at hv0
    have hr := cnt_rng l s.f0
    rw [w64 (by omega) (by omega)]
    by_cases hm : (l.length : Int) < 2 * mst l l 0
    · rw [if_neg (by omega), AG_t ((agB_iff l).2 ⟨hv0, hm⟩)]
      unfold spec_agreed.f
      rw [sMost_eq (by omega) (by omega)]
      simp only [Option.bind_some]
      have h := sLo_l0 l (by omega) (mst l l 0) l.length k 0 1000000 (Nat.zero_le _) (by omega) (by omega)
      rw [List.drop_zero, show ((0 : Nat) : Int) = 0 from rfl] at h
      rw [h]
      rfl
    · rw [if_pos (by omega), AG_f (fun h => hm ((agB_iff l).1 h).2)]
  · rw [if_neg hv0, AG_f (fun h => hv0 ((agB_iff l).1 h).1)]

theorem sl_le (a : List Sp) (M : Int) : ∀ (l : List Sp) (x : Int), sl a M l x ≤ x ∧ (∀ s ∈ l, cnt a s.f0 = M → sl a M l x ≤ s.f0) ∧ (sl a M l x = x ∨ ∃ s ∈ l, cnt a s.f0 = M ∧ sl a M l x = s.f0)
  | [], x => ⟨Int.le_refl _, fun s hs => by simp at hs, .inl rfl⟩
  | t :: l, x => by
    rw [sl.eq_2]
    by_cases h : cnt a t.f0 = M
    · rw [if_pos h]
      obtain ⟨h1, h2, h3⟩ := sl_le a M l (mn x t.f0)
      have hx : mn x t.f0 ≤ x ∧ mn x t.f0 ≤ t.f0 ∧ (mn x t.f0 = x ∨ mn x t.f0 = t.f0) := by unfold mn; split <;> omega
      refine ⟨by omega, fun s hs hc => ?_, ?_⟩
      · rcases List.mem_cons.1 hs with rfl | hs
        · omega
        · exact h2 s hs hc
      · rcases h3 with h3 | ⟨s, hs, hc, he⟩
        · rcases hx.2.2 with q | q
          · exact .inl (by omega)
          · exact .inr ⟨t, List.mem_cons_self, h, by omega⟩
        · exact .inr ⟨s, List.mem_cons_of_mem _ hs, hc, he⟩
    · rw [if_neg h]
      obtain ⟨h1, h2, h3⟩ := sl_le a M l x
      refine ⟨h1, fun s hs hc => ?_, ?_⟩
      · rcases List.mem_cons.1 hs with rfl | hs
        · exact absurd hc h
        · exact h2 s hs hc
      · rcases h3 with h3 | ⟨s, hs, hc, he⟩
        · exact .inl h3
        · exact .inr ⟨s, List.mem_cons_of_mem _ hs, hc, he⟩

theorem hv_le (lo : Int) : ∀ (l : List Sp) (x : Int), hv lo l x ≤ x ∧ (∀ s ∈ l, hasB s lo = true → hv lo l x ≤ s.f1) ∧ (hv lo l x = x ∨ ∃ s ∈ l, hasB s lo = true ∧ hv lo l x = s.f1)
  | [], x => ⟨Int.le_refl _, fun s hs => by simp at hs, .inl rfl⟩
  | t :: l, x => by
    rw [hv.eq_2]
    by_cases h : hasB t lo = true
    · rw [if_pos h]
      obtain ⟨h1, h2, h3⟩ := hv_le lo l (mn x t.f1)
      have hx : mn x t.f1 ≤ x ∧ mn x t.f1 ≤ t.f1 ∧ (mn x t.f1 = x ∨ mn x t.f1 = t.f1) := by unfold mn; split <;> omega
      refine ⟨by omega, fun s hs hc => ?_, ?_⟩
      · rcases List.mem_cons.1 hs with rfl | hs
        · omega
        · exact h2 s hs hc
      · rcases h3 with h3 | ⟨s, hs, hc, he⟩
        · rcases hx.2.2 with q | q
          · exact .inl (by omega)
          · exact .inr ⟨t, List.mem_cons_self, h, by omega⟩
        · exact .inr ⟨s, List.mem_cons_of_mem _ hs, hc, he⟩
    · rw [if_neg h]
      obtain ⟨h1, h2, h3⟩ := hv_le lo l x
      refine ⟨h1, fun s hs hc => ?_, ?_⟩
      · rcases List.mem_cons.1 hs with rfl | hs
        · exact absurd hc h
        · exact h2 s hs hc
      · rcases h3 with h3 | ⟨s, hs, hc, he⟩
        · exact .inl h3
        · exact .inr ⟨s, List.mem_cons_of_mem _ hs, hc, he⟩

/-- What the agreed span is: Low is the least number with the most votes, High the least end of the spans that have it. -/
structure IsAg (l : List Sp) (lo hi : Int) : Prop where
  most : ∀ n, cnt l n ≤ cnt l lo
  least : ∀ n, cnt l n = cnt l lo → lo ≤ n
  ends : ∀ s ∈ l, hasB s lo = true → hi ≤ s.f1
  at_ : ∃ s ∈ l, hasB s lo = true ∧ hi = s.f1
  ord : lo ≤ hi

theorem lo_votes {l : List Sp} (h : vld l = true) : cnt l (LO l) = mst l l 0 := by
  obtain ⟨s, hs, he⟩ := most_at h
  obtain ⟨h1, h2, h3⟩ := sl_le l (mst l l 0) l 1000000
  rcases h3 with h3 | ⟨t, ht, hc, hq⟩
  · have h4 := h2 s hs he.symm
    have h5 := ((okS_iff s).1 (((vld_iff l).1 h).2 s hs)).2.1
    have h6 : LO l = s.f0 := by unfold LO; omega
    rw [h6]; exact he.symm
  · have h6 : LO l = t.f0 := hq
    rw [h6]; exact hc

theorem ag_is {l : List Sp} (h : vld l = true) : IsAg l (LO l) (HI l) := by
  have hM := lo_votes h
  obtain ⟨h1, h2, _⟩ := sl_le l (mst l l 0) l 1000000
  obtain ⟨g1, g2, g3⟩ := hv_le (LO l) l 1000000
  have hp := most_pos h
  obtain ⟨u, hu, hub⟩ := has_of_pos (l := l) (n := LO l) (by omega)
  have hat : ∃ s ∈ l, hasB s (LO l) = true ∧ HI l = s.f1 := by
    rcases g3 with g3 | g3
    · have h4 := g2 u hu hub
      have h5 := ((okS_iff u).1 (((vld_iff l).1 h).2 u hu)).2.2.2
      exact ⟨u, hu, hub, by unfold HI; omega⟩
    · exact g3
  refine ⟨fun n => by rw [hM]; exact most_ge l n, fun n hn => ?_, g2, hat, ?_⟩
  · obtain ⟨s, hs, hb, hle⟩ := cnt_le_low (l := l) (n := n) (by omega)
    have hc : cnt l s.f0 = mst l l 0 := by
      have := most_ge l s.f0
      omega
    have h3 := h2 s hs hc
    have h4 := of_decide_eq_true hb
    unfold LO
    omega
  · obtain ⟨s, hs, hb, he⟩ := hat
    have h4 := of_decide_eq_true hb
    omega

theorem most_cnt {l : List Sp} (h : vld l = true) {lo : Int} (hm : ∀ n, cnt l n ≤ cnt l lo) : mst l l 0 = cnt l lo := by
  obtain ⟨s, _, he⟩ := most_at h
  have h1 := most_ge l lo
  have h2 := hm s.f0
  omega

theorem ag_unique {l : List Sp} {lo hi : Int} (h : vld l = true) (hi' : IsAg l lo hi) : LO l = lo ∧ HI l = hi := by
  have a := ag_is h
  have e : LO l = lo := by
    have h1 := a.most lo
    have h2 := hi'.most (LO l)
    have h3 := a.least lo (by omega)
    have h4 := hi'.least (LO l) (by omega)
    omega
  refine ⟨e, ?_⟩
  obtain ⟨s, hs, hb, he⟩ := a.at_
  obtain ⟨t, ht, hc, hq⟩ := hi'.at_
  rw [e] at hb
  have h1 := hi'.ends s hs hb
  have h2 := a.ends t ht (by rw [e]; exact hc)
  omega

theorem cnt_hi {l : List Sp} {lo hi n : Int} (a : IsAg l lo hi) (h1 : lo ≤ n) (h2 : n ≤ hi) : cnt l n = cnt l lo := by
  have h3 := a.most n
  have h4 : cnt l lo ≤ cnt l n := cnt_mono (fun s hs hb => by
    have := a.ends s hs hb
    have hb' := of_decide_eq_true hb
    exact decide_eq_true ⟨by omega, by omega⟩)
  omega

theorem anySpans_j1 {s : List Int} (hs : Bts s) (l : List Sp) (b : Bool) (p : Int) (k : Nat) (hk : 2 ≤ k) (hp : 0 ≤ p) (hp2 : p ≤ 500000) (hb : b = true → 0 < l.length) :
    ∃ l' p', spec_anySpans.j1 k l b s p = some (l', p') ∧ l'.length = l.length ∧ p ≤ p' ∧ p' ≤ p + 3 := by
  obtain ⟨k, rfl⟩ : ∃ m, k = m + 1 := ⟨k - 1, by omega⟩
  simp only [spec_anySpans.j1]
  cases b with
  | false => exact ⟨l, p, by rw [if_neg (by decide)], rfl, by omega, by omega⟩
  | true =>
    have hl := hb rfl
    rw [if_pos (by trivial)]
    obtain ⟨v, h, h0, h1⟩ := pick_okk hs p (l.length : Int) k (by omega) hp (by omega)
    rw [h]; simp only [Option.bind_some]
    obtain ⟨v2, h2, _⟩ := one_okk hs (p + 1) [(-1000001), 5, 1000000] k (by omega) (by simp) (by omega) (by omega)
    rw [h2]; simp only [Option.bind_some]
    obtain ⟨v3, h3, _⟩ := one_okk hs (p + 1 + 1) [4, 1000001, 1000000] k (by omega) (by simp) (by omega) (by omega)
    rw [h3]; simp only [Option.bind_some]
    rw [if_pos h0, if_pos (h1 (by omega))]
    exact ⟨_, _, rfl, by rw [List.length_set], by omega, by omega⟩

theorem anySpans_l0 {s : List Int} (hs : Bts s) (mid : Int) : ∀ (n k : Nat) (l : List Sp) (p : Int), n + 4 ≤ k → l.length + n ≤ 8 → 0 ≤ p → p + 5 * n ≤ 400000 →
    ∃ l' p', spec_anySpans.l0 k l mid (n : Int) s p = some (l', p') ∧ l'.length ≤ 8 ∧ p ≤ p' ∧ p' ≤ p + 5 * n + 4 := by
  intro n
  induction n with
  | zero =>
    intro k l p hk hl hp hp2
    obtain ⟨k, rfl⟩ : ∃ m, k = m + 1 := ⟨k - 1, by omega⟩
    simp only [spec_anySpans.l0]
    rw [if_neg (by omega)]
    by_cases h0 : (l.length : Int) > 0
    · rw [if_pos h0]
      obtain ⟨v, h, _⟩ := pick_okk hs p 16 k (by omega) hp (by omega)
      rw [h]; simp only [Option.bind_some]
      obtain ⟨l', p', h1, h2, h3, h4⟩ := anySpans_j1 hs l (v == 0) (p + 1) k (by omega) (by omega) (by omega) (fun _ => by omega)
      exact ⟨l', p', h1, by omega, by omega, by omega⟩
    · rw [if_neg h0]
      obtain ⟨l', p', h1, h2, h3, h4⟩ := anySpans_j1 hs l false p k (by omega) (by omega) (by omega) (fun h => by cases h)
      exact ⟨l', p', h1, by omega, by omega, by omega⟩
  | succ n ih =>
    intro k l p hk hl hp hp2
    obtain ⟨k, rfl⟩ : ∃ m, k = m + 1 := ⟨k - 1, by omega⟩
    simp only [spec_anySpans.l0]
    rw [if_pos (by omega)]
    obtain ⟨v1, h1, _⟩ := pick_okk hs p 30 k (by omega) hp (by omega)
    rw [h1]; simp only [Option.bind_some]
    obtain ⟨v2, h2, _⟩ := pick_okk hs (p + 1) 4 k (by omega) (by omega) (by omega)
    rw [h2]; simp only [Option.bind_some]
    have en : wrap64 (((n + 1 : Nat) : Int) - 1) = (n : Int) := by rw [w64 (by omega) (by omega)]; omega
    rw [en]
    by_cases h0 : v2 = 0
    · rw [if_pos h0]
      obtain ⟨v3, h3, _⟩ := pick_okk hs (p + 1 + 1) 100 k (by omega) (by omega) (by omega)
      rw [h3]; simp only [Option.bind_some]
      obtain ⟨v4, h4, _⟩ := one_okk hs (p + 1 + 1 + 1) [10, 40, 0, 100, 20] k (by omega) (by simp) (by omega) (by omega)
      rw [h4]; simp only [Option.bind_some]
      rw [if_pos (by omega)]
      obtain ⟨l', p', h5, h6, h7, h8⟩ := ih k (l ++ [(⟨wrap64 ((wrap64 (mid + 50)) + v3), wrap64 ((wrap64 ((wrap64 (mid + 50)) + v3)) + v4)⟩ : Sp)]) (p + 1 + 1 + 1 + 1) (by omega) (by rw [List.length_append, List.length_singleton]; omega) (by omega) (by omega)
      exact ⟨l', p', h5, h6, by omega, by omega⟩
    · rw [if_neg h0]
      obtain ⟨v4, h4, _⟩ := one_okk hs (p + 1 + 1) [10, 40, 0, 100, 20] k (by omega) (by simp) (by omega) (by omega)
      rw [h4]; simp only [Option.bind_some]
      rw [if_pos (by omega)]
      obtain ⟨l', p', h5, h6, h7, h8⟩ := ih k (l ++ [(⟨wrap64 (mid - v1), wrap64 ((wrap64 (mid - v1)) + v4)⟩ : Sp)]) (p + 1 + 1 + 1) (by omega) (by rw [List.length_append, List.length_singleton]; omega) (by omega) (by omega)
      exact ⟨l', p', h5, h6, by omega, by omega⟩

theorem anySpans_ok {s : List Int} (hs : Bts s) (p : Int) (k : Nat) (hk : 12 ≤ k) (hp : 0 ≤ p) (hp2 : p ≤ 100000) :
    ∃ l p', spec_anySpans.f k s p = some (l, p') ∧ l.length ≤ 8 ∧ p ≤ p' ∧ p' ≤ p + 50 := by
  unfold spec_anySpans.f
  obtain ⟨v1, h1, _⟩ := pick_okk hs p 40 k (by omega) hp (by omega)
  rw [h1]; simp only [Option.bind_some]
  obtain ⟨v2, h2, hv⟩ := one_okk hs (p + 1) [3, 4, 5, 2, 1, 0, 7, 8] k (by omega) (by simp) (by omega) (by omega)
  rw [h2]; simp only [Option.bind_some]
  have hv' : 0 ≤ v2 ∧ v2 ≤ 8 := by simp at hv; omega
  obtain ⟨n, rfl⟩ := Int.eq_ofNat_of_zero_le hv'.1
  obtain ⟨l', p', h5, h6, h7, h8⟩ := anySpans_l0 hs (wrap64 (10 * (wrap64 (v1 - 20)))) n k [] (p + 1 + 1) (by omega) (by simp; omega) (by omega) (by omega)
  exact ⟨l', p', h5, h6, by omega, by omega⟩

theorem drawAgreed_ok {l : List Int} (h : ∀ x ∈ l, 0 ≤ x ∧ x ≤ 255) (k : Nat) (hk : 12 ≤ k) : ∃ L, spec_DrawAgreedSpan.f k l = some L ∧ L.length ≤ 8 := by
  obtain ⟨s, h1, hs⟩ := new_ok h
  unfold spec_DrawAgreedSpan.f
  rw [h1]; simp only [Option.bind_some]
  obtain ⟨L, p, h2, h3, _⟩ := anySpans_ok hs 0 k hk (by omega) (by omega)
  rw [h2]; simp only [Option.bind_some]
  exact ⟨_, rfl, h3⟩

theorem ag_one {s : Sp} (h : okS s = true) : AG [s] = (s.f0, s.f1, true) := by
  have hs := (okS_iff s).1 h
  have hv : vld [s] = true := (vld_iff _).2 ⟨⟨by simp, by simp⟩, fun t ht => by rw [List.mem_singleton.1 ht]; exact h⟩
  have hc : ∀ n, cnt [s] n = if hasB s n = true then 1 else 0 := fun n => by unfold cnt; rw [show cnt [] n = 0 from rfl, Int.add_zero]
  have h0 : hasB s s.f0 = true := decide_eq_true ⟨Int.le_refl _, hs.2.2.1⟩
  have h1 : cnt [s] s.f0 = 1 := by rw [hc, if_pos h0]
  have a : IsAg [s] s.f0 s.f1 := by
    refine ⟨fun n => ?_, fun n hn => ?_, fun t ht _ => ?_, ⟨s, List.mem_singleton.2 rfl, h0, rfl⟩, hs.2.2.1⟩
    · rw [h1, hc]; split <;> omega
    · rw [h1, hc] at hn
      by_cases hb : hasB s n = true
      · exact (of_decide_eq_true hb).1
      · rw [if_neg hb] at hn; omega
    · rw [List.mem_singleton.1 ht]; exact Int.le_refl _
  obtain ⟨e1, e2⟩ := ag_unique hv a
  have hm := most_cnt hv a.most
  rw [AG_t ((agB_iff _).2 ⟨hv, by rw [hm, h1]; simp⟩), e1, e2]

theorem FnAgreedSpanOne : laws_FnAgreedSpanOne.Pure := by
  intro l _ _ hw
  refine ⟨59 + 1, ?_⟩
  obtain ⟨L, hd, hL8⟩ := drawAgreed_ok (bytes_rng hw) (59 + 1) (by omega)
  unfold laws_FnAgreedSpanOne.f
  by_cases hL : (l.length : Int) > 1048576
  · rw [if_pos hL]
  · rw [if_neg hL, hd]
    simp only [Option.bind_some]
    rw [iAG_eq (by omega) (by omega), sAG_eq (by omega) (by omega)]
    simp only [Option.bind_some]
    rw [if_neg (by simp), if_neg (by simp), iValid_eq]
    simp only [Option.bind_some]
    rw [laws_FnAgreedSpanOne.j0]
    by_cases hv : vld L = true
    · obtain ⟨⟨h1, h7⟩, hall⟩ := (vld_iff L).1 hv
      have e : L.take 1 = [L[0]] := by
        cases L with
        | nil => simp at h1
        | cons s t => rfl
      have e0 : rd_T26 L 0 = L[0] := rdS (i := 0) (by omega)
      rw [hv, if_neg (by decide), if_pos (by omega), e, iAG_eq (by simp) (by simp), ag_one (hall _ (List.getElem_mem (by omega))), e0]
      simp only [Option.bind_some]
      rw [if_pos (by trivial), if_pos (by omega)]
      simp
    · rw [eq_false_of_ne_true hv, if_pos (by decide), if_pos (by simp)]
      simp

end Go.Proofs.Ytlgphpjialbaoaa.Pure
