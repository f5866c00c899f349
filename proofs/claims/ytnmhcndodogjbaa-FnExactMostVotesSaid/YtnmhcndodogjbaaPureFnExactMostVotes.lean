/- The program's MostVotes returns what the reference's returns, for all spans, and leaves its argument as it was. For every input; no condition. -/
import Derived.Test.YtnmhcndodogjbaaPAllx3
import Derived.Test.YtnmhcndodogjbaaBase
namespace Go.Proofs.Ytnmhcndodogjbaa.Pure
open Go.RowKit Go.Proofs.Ytnmhcndodogjbaa.PAll Go.Proofs.YtnmhcndodogjbaaW.PrintWords Go.Proofs.YtnmhcndodogjbaaW.PrintLast Go.Proofs.YtnmhcndodogjbaaW.PrintMore Go.Proofs.Ytnmhcndodogjbaa.Base
set_option linter.unusedVariables false
set_option linter.unusedSimpArgs false

abbrev Sp := S37

theorem wsucc {i : Nat} (h : i < 1152921504606846976) : wrap64 ((i : Int) + 1) = ((i + 1 : Nat) : Int) := by
  rw [w64 (by omega) (by omega)]; omega

theorem rdS {l : List Sp} {i : Nat} (h : i < l.length) : rd_T37 l (i : Int) = l[i] := by
  unfold rd_T37
  rw [Int.toNat_natCast, List.getD_eq_getElem?_getD, List.getElem?_eq_getElem h]; rfl

theorem inRange_eq (a b c : Int) : spec_inRange.f a b c = some (decide (b ≤ a ∧ a ≤ c)) := by
  unfold spec_inRange.f
  by_cases h : b ≤ a
  · rw [if_pos h]; simp [h]
  · rw [if_neg h]; simp [h]

theorem within_eq (a b c : Int) : impl_within.f a b c = some (decide (b ≤ a ∧ a ≤ c)) := by
  unfold impl_within.f
  by_cases h : b ≤ a
  · rw [if_pos h]; simp [h]
  · rw [if_neg h]; simp [h]

/-- Valid spans. -/
def okS (s : Sp) : Bool := spanOk s.f0 s.f1
def vld (l : List Sp) : Bool := decide (1 ≤ l.length ∧ l.length ≤ 7) && l.all okS
theorem iValid_eq (l : List Sp) : impl_ValidSpans.f l = some (vld l) := rfl

theorem okS_iff (s : Sp) : okS s = true ↔ -1000000 ≤ s.f0 ∧ s.f0 ≤ 1000000 ∧ s.f0 ≤ s.f1 ∧ s.f1 ≤ 1000000 := by
  unfold okS spanOk; simp

theorem vld_iff (l : List Sp) : vld l = true ↔ (1 ≤ l.length ∧ l.length ≤ 7) ∧ ∀ s ∈ l, okS s = true := by
  unfold vld; rw [Bool.and_eq_true, decide_eq_true_eq, List.all_eq_true]

theorem sSpan_eq (a b : Int) : spec_validSpan.f a b = some (spanOk a b) := by
  unfold spec_validSpan.f spanOk
  simp only [inRange_eq, Option.bind_some]
  by_cases h1 : -1000000 ≤ a <;> by_cases h2 : a ≤ 1000000 <;> by_cases h3 : a ≤ b <;> simp [h1, h2, h3]

theorem sValid_l0 (l : List Sp) (hl : l.length ≤ 1152921504606846975) : ∀ (k i : Nat), i ≤ l.length → l.length - i < k →
    spec_validSpans.l0 k l (i : Int) = some ((l.drop i).all okS && decide (1 ≤ l.length ∧ l.length ≤ 7)) := by
  intro k
  induction k with
  | zero => intro i _ hk; omega
  | succ k ih =>
    intro i hi hk
    simp only [spec_validSpans.l0]
    by_cases hlt : i < l.length
    · rw [if_pos (by omega), if_pos (by omega), rdS hlt, sSpan_eq]
      simp only [Option.bind_some]
      rw [List.drop_eq_getElem_cons hlt, List.all_cons, wsucc (by omega)]
      cases ho : spanOk l[i].f0 l[i].f1 with
      | true => rw [if_pos rfl, ih (i + 1) (by omega) (by omega)]; unfold okS; rw [ho]; rfl
      | false => rw [if_neg (by decide)]; unfold okS; rw [ho]; rfl
    · have e : i = l.length := by omega
      have ed : decide (1 ≤ (l.length : Int) ∧ (l.length : Int) ≤ 7) = decide (1 ≤ l.length ∧ l.length ≤ 7) := by rw [decide_eq_decide]; omega
      rw [if_neg (by omega), inRange_eq, e, List.drop_length, ed]
      rfl

theorem sValid_eq {l : List Sp} (hl : l.length ≤ 1152921504606846975) {k : Nat} (hk : l.length < k) : spec_validSpans.f k l = some (vld l) := by
  unfold spec_validSpans.f vld
  have h := sValid_l0 l hl k 0 (Nat.zero_le _) (by omega)
  rw [List.drop_zero] at h
  rw [show ((0 : Nat) : Int) = 0 from rfl] at h
  rw [h, Bool.and_comm]

/-- How many spans have a number. -/
def hasB (s : Sp) (n : Int) : Bool := decide (s.f0 ≤ n ∧ n ≤ s.f1)
def cnt : List Sp → Int → Int
  | [], _ => 0
  | s :: l, n => (if hasB s n = true then 1 else 0) + cnt l n

theorem cnt_rng : ∀ (l : List Sp) (n : Int), 0 ≤ cnt l n ∧ cnt l n ≤ l.length
  | [], n => ⟨Int.le_refl _, Int.le_refl _⟩
  | s :: l, n => by
    have h := cnt_rng l n
    unfold cnt
    rw [List.length_cons]
    split <;> omega

theorem iHas_eq (a b n : Int) : impl_Span_has.f a b n = some (decide (a ≤ n ∧ n ≤ b)) := by
  unfold impl_Span_has.f
  rw [within_eq]; simp only [Option.bind_some]

theorem iVotes_l0 (l : List Sp) (hl : l.length ≤ 1152921504606846975) (n : Int) : ∀ (k i : Nat) (acc : Int), i ≤ l.length → l.length - i < k → 0 ≤ acc → acc ≤ i →
    impl_votesFor.l0 k n acc l (l.length : Int) (i : Int) = some (acc + cnt (l.drop i) n) := by
  intro k
  induction k with
  | zero => intro i _ _ hk; omega
  | succ k ih =>
    intro i acc hi hk h0 h1
    simp only [impl_votesFor.l0]
    by_cases hlt : i < l.length
    · rw [if_pos (by omega), if_pos (by omega), if_pos (by omega), rdS hlt, iHas_eq]
      simp only [Option.bind_some]
      rw [List.drop_eq_getElem_cons hlt, wsucc (by omega), w64 (x := acc + 1) (by omega) (by omega)]
      unfold cnt
      cases ho : hasB l[i] n with
      | true =>
        have ho' : decide (l[i].f0 ≤ n ∧ n ≤ l[i].f1) = true := ho
        rw [if_pos ho', if_pos rfl, ih (i + 1) (acc + 1) (by omega) (by omega) (by omega) (by omega), Int.add_assoc]
      | false =>
        have ho' : decide (l[i].f0 ≤ n ∧ n ≤ l[i].f1) = false := ho
        rw [if_neg (by rw [ho']; decide), if_neg (by decide), ih (i + 1) acc (by omega) (by omega) (by omega) (by omega), Int.zero_add]
    · have e : i = l.length := by omega
      rw [if_neg (by omega), e, List.drop_length]
      unfold cnt
      rw [Int.add_zero]

theorem iVotes_eq {l : List Sp} (hl : l.length ≤ 1152921504606846975) {k : Nat} (hk : l.length < k) (n : Int) : impl_votesFor.f k l n = some (cnt l n) := by
  unfold impl_votesFor.f
  have h := iVotes_l0 l hl n k 0 0 (Nat.zero_le _) (by omega) (by omega) (by omega)
  rw [List.drop_zero, Int.zero_add] at h
  exact h

theorem toInt_eq (b : Bool) : spec_toInt.f b = some (if b = true then 1 else 0) := by
  unfold spec_toInt.f; cases b <;> rfl

theorem sVotes_l0 (l : List Sp) (hl : l.length ≤ 1152921504606846975) (n : Int) : ∀ (k i : Nat) (acc : Int), i ≤ l.length → l.length - i < k → 0 ≤ acc → acc ≤ i →
    spec_votes.l0 k l n acc (i : Int) = some (acc + cnt (l.drop i) n) := by
  intro k
  induction k with
  | zero => intro i _ _ hk; omega
  | succ k ih =>
    intro i acc hi hk h0 h1
    simp only [spec_votes.l0]
    by_cases hlt : i < l.length
    · rw [if_pos (by omega), if_pos (by omega), rdS hlt, inRange_eq]
      simp only [Option.bind_some]
      rw [toInt_eq]
      simp only [Option.bind_some]
      rw [List.drop_eq_getElem_cons hlt, wsucc (by omega)]
      have e : (if decide (l[i].f0 ≤ n ∧ n ≤ l[i].f1) = true then (1 : Int) else 0) = (if hasB l[i] n = true then 1 else 0) := rfl
      rw [e]
      have hb : 0 ≤ (if hasB l[i] n = true then (1 : Int) else 0) ∧ (if hasB l[i] n = true then (1 : Int) else 0) ≤ 1 := by split <;> omega
      rw [cnt.eq_2]
      generalize (if hasB l[i] n = true then (1 : Int) else 0) = b at hb ⊢
      rw [w64 (x := acc + b) (by omega) (by omega), ih (i + 1) (acc + b) (by omega) (by omega) (by omega) (by omega), Int.add_assoc]
    · have e : i = l.length := by omega
      rw [if_neg (by omega), e, List.drop_length]
      unfold cnt
      rw [Int.add_zero]

theorem sVotes_eq {l : List Sp} (hl : l.length ≤ 1152921504606846975) {k : Nat} (hk : l.length < k) (n : Int) : spec_votes.f k l n = some (cnt l n) := by
  unfold spec_votes.f
  have h := sVotes_l0 l hl n k 0 0 (Nat.zero_le _) (by omega) (by omega) (by omega)
  rw [List.drop_zero, Int.zero_add] at h
  exact h

/-- The greatest number of votes for the Low of a span of a list, and m. -/
def mst (a : List Sp) : List Sp → Int → Int
  | [], m => m
  | s :: l, m => mst a l (mx m (cnt a s.f0))
/-- The program's own: the most votes, and the least Low that has them. -/
def mp (a : List Sp) : List Sp → Int → Int → Int × Int
  | [], m, lo => (m, lo)
  | s :: l, m, lo => if cnt a s.f0 > m then mp a l (cnt a s.f0) s.f0 else if cnt a s.f0 = m ∧ s.f0 < lo then mp a l m s.f0 else mp a l m lo

theorem mp_fst (a : List Sp) : ∀ (l : List Sp) (m lo : Int), (mp a l m lo).1 = mst a l m
  | [], m, lo => rfl
  | s :: l, m, lo => by
    unfold mp mst
    by_cases h : cnt a s.f0 > m
    · rw [if_pos h, mp_fst a l]; congr 1; unfold mx; rw [if_pos (by omega)]
    · have e : mx m (cnt a s.f0) = m := by unfold mx; rw [if_neg (by omega)]
      rw [if_neg h, e]
      split <;> exact mp_fst a l _ _

theorem sMost_l0 (l : List Sp) (hl : l.length ≤ 1152921504606846975) : ∀ (k i : Nat) (m : Int), i ≤ l.length → 2 * l.length - i < k →
    spec_mostVotes.l0 k l m (i : Int) = some (mst l (l.drop i) m) := by
  intro k
  induction k with
  | zero => intro i _ _ hk; omega
  | succ k ih =>
    intro i m hi hk
    simp only [spec_mostVotes.l0]
    by_cases hlt : i < l.length
    · rw [if_pos (by omega), if_pos (by omega), rdS hlt, sVotes_eq hl (by omega)]
      simp only [Option.bind_some]
      rw [wsucc (by omega), ih (i + 1) _ (by omega) (by omega), List.drop_eq_getElem_cons hlt]
      rfl
    · have e : i = l.length := by omega
      rw [if_neg (by omega), e, List.drop_length]
      rfl

theorem sMost_eq {l : List Sp} (hl : l.length ≤ 1152921504606846975) {k : Nat} (hk : 2 * l.length < k) : spec_mostVotes.f k l = some (mst l l 0) := by
  unfold spec_mostVotes.f
  have h := sMost_l0 l hl k 0 0 (Nat.zero_le _) (by omega)
  rw [List.drop_zero] at h
  exact h

theorem iMost_l0 (l : List Sp) (hl : l.length ≤ 1152921504606846975) : ∀ (k i : Nat) (m lo : Int), i ≤ l.length → 2 * l.length - i < k →
    impl_mostVotes.l0 k l m lo l (l.length : Int) (i : Int) = some (mp l (l.drop i) m lo) := by
  intro k
  induction k with
  | zero => intro i _ _ _ hk; omega
  | succ k ih =>
    intro i m lo hi hk
    simp only [impl_mostVotes.l0]
    by_cases hlt : i < l.length
    · rw [if_pos (by omega), if_pos (by omega), if_pos (by omega), rdS hlt, iVotes_eq hl (by omega)]
      simp only [Option.bind_some]
      rw [wsucc (by omega), List.drop_eq_getElem_cons hlt]
      unfold mp
      by_cases h1 : cnt l l[i].f0 > m
      · rw [if_pos h1, if_pos h1, ih (i + 1) _ _ (by omega) (by omega)]
      · rw [if_neg h1, if_neg h1]
        by_cases h2 : cnt l l[i].f0 = m
        · rw [if_pos h2]
          by_cases h3 : l[i].f0 < lo
          · rw [if_pos h3, if_pos ⟨h2, h3⟩, ih (i + 1) _ _ (by omega) (by omega), h2]
          · rw [if_neg h3, if_neg (fun e => h3 e.2), ih (i + 1) _ _ (by omega) (by omega)]
        · rw [if_neg h2, if_neg (fun e => h2 e.1), ih (i + 1) _ _ (by omega) (by omega)]
    · have e : i = l.length := by omega
      rw [if_neg (by omega), e, List.drop_length]
      rfl

theorem iMost_eq {l : List Sp} (hl : l.length ≤ 1152921504606846975) {k : Nat} (hk : 2 * l.length < k) : impl_mostVotes.f k l = some (mp l l 0 0) := by
  unfold impl_mostVotes.f
  have h := iMost_l0 l hl k 0 0 0 (Nat.zero_le _) (by omega)
  rw [List.drop_zero] at h
  exact h

def MV (l : List Sp) : Int := if vld l = true then mst l l 0 else -1

theorem iMV_eq {l : List Sp} (hl : l.length ≤ 1152921504606846975) {k : Nat} (hk : 2 * l.length < k) : impl_MostVotes.f k l = some (MV l) := by
  unfold impl_MostVotes.f MV
  rw [iValid_eq]; simp only [Option.bind_some]
  rw [iMost_eq hl hk]; simp only [Option.bind_some]
  rw [mp_fst]
  split <;> rfl

theorem sMV_eq {l : List Sp} (hl : l.length ≤ 1152921504606846975) {k : Nat} (hk : 2 * l.length < k) : spec_MostVotes.f k l = some (MV l) := by
  unfold spec_MostVotes.f MV
  rw [sValid_eq hl (by omega)]; simp only [Option.bind_some]
  rw [sMost_eq hl hk]; simp only [Option.bind_some]
  split <;> rfl

abbrev LSp := S40
def cv (s : LSp) : Sp := ⟨s.f0, s.f1⟩

theorem rdL {l : List LSp} {i : Nat} (h : i < l.length) : rd_T40 l (i : Int) = l[i] := by
  unfold rd_T40
  rw [Int.toNat_natCast, List.getD_eq_getElem?_getD, List.getElem?_eq_getElem h]; rfl

theorem to_l0 (x : List LSp) (hx : x.length ≤ 1048576) : ∀ (k i : Nat) (acc : List Sp), acc.length = x.length → i ≤ x.length → x.length - i < k →
    laws_toSpanS.l0 k x acc (i : Int) = some (acc.take i ++ (x.drop i).map cv) := by
  intro k
  induction k with
  | zero => intro i _ _ _ hk; omega
  | succ k ih =>
    intro i acc ha hi hk
    simp only [laws_toSpanS.l0]
    by_cases hlt : i < x.length
    · rw [if_pos (by omega), if_pos (by omega), rdL hlt]
      unfold laws_toSpan.f
      simp only [Option.bind_some]
      rw [if_pos (by omega), Int.toNat_natCast, wsucc (by omega), ih (i + 1) _ (by rw [List.length_set]; exact ha) (by omega) (by omega)]
      rw [List.drop_eq_getElem_cons hlt, List.map_cons, List.take_succ_eq_append_getElem (by rw [List.length_set]; omega), List.getElem_set_self, List.take_set_of_le (Nat.le_refl i), List.append_assoc]
      rfl
    · have e : i = x.length := by omega
      rw [if_neg (by omega), e, List.drop_length, List.map_nil, List.append_nil, ← ha, List.take_length]

theorem to_eq {x : List LSp} (hx : x.length ≤ 1048576) {k : Nat} (hk : x.length < k) : laws_toSpanS.f k x = some (x.map cv) := by
  unfold laws_toSpanS.f
  rw [if_pos (by omega), if_pos (by omega)]
  have h := to_l0 x hx k 0 (List.replicate ((x.length : Int) : Int).toNat z37) (by rw [List.length_replicate, Int.toNat_natCast]) (Nat.zero_le _) (by omega)
  rw [List.take_zero, List.drop_zero, List.nil_append] at h
  exact h

theorem eqS_l0 (x : List Sp) (hx : x.length ≤ 1048576) : ∀ (k i : Nat), i ≤ x.length → x.length - i < k → laws_eqSpanS.l0 k x x (i : Int) = some true := by
  intro k
  induction k with
  | zero => intro i _ hk; omega
  | succ k ih =>
    intro i hi hk
    simp only [laws_eqSpanS.l0]
    by_cases hlt : i < x.length
    · rw [if_pos (by omega), if_pos (by omega), if_pos (by omega)]
      unfold laws_eqSpan.f
      rw [if_pos rfl, if_pos rfl]
      simp only [Option.bind_some]
      rw [if_pos (by trivial), wsucc (by omega)]
      exact ih (i + 1) (by omega) (by omega)
    · rw [if_neg (by omega)]

theorem eqS_eq {x : List Sp} (hx : x.length ≤ 1048576) {k : Nat} (hk : x.length < k) : laws_eqSpanS.f k x x = some true := by
  unfold laws_eqSpanS.f
  rw [if_pos rfl]
  exact eqS_l0 x hx k 0 (Nat.zero_le _) (by omega)

theorem sz_eq (x : List LSp) (hm : x.length ≤ maxLen) : laws_szSpanS.f x 1048576 = some (if x.length ≤ 1048576 then 1048576 - (x.length : Int) else -1) := by
  unfold laws_szSpanS.f
  unfold maxLen at hm
  rw [w64 (by omega) (by omega)]
  by_cases h : x.length ≤ 1048576
  · rw [if_neg (by omega), if_pos h]
  · rw [if_pos (by omega), if_neg h]

theorem FnExactMostVotes : ∀ (l0 : List S40), l0.length ≤ maxLen → ∃ k, laws_FnExactMostVotes.f k l0 = some true := by
  intro x hm
  refine ⟨2 * x.length + 1, ?_⟩
  unfold laws_FnExactMostVotes.f
  rw [sz_eq x hm]; simp only [Option.bind_some]
  by_cases h : x.length ≤ 1048576
  · have hl : (x.map cv).length = x.length := List.length_map _
    rw [if_pos h, if_neg (by omega), to_eq h (by omega)]
    simp only [Option.bind_some]
    rw [sMV_eq (by omega) (by omega), iMV_eq (by omega) (by omega)]
    simp only [Option.bind_some]
    rw [if_pos (by trivial), eqS_eq (by omega) (by omega)]
    simp only [Option.bind_some]
    rfl
  · rw [if_neg h, if_pos (by omega)]

end Go.Proofs.Ytnmhcndodogjbaa.Pure
