/- Plain lemmas on whole numbers and lists; no program is in sight; no condition beyond each statement's own. -/
import Derived.Test.YtkmklifflghojaaWMore
import Derived.Laws.BitsLemmas
/-! Plain lemmas on wrapped integers, floor division, xor and list reads: no program in sight. -/
namespace Go.Proofs.Ytkmklifflghojaa.Base
open Go.RowKit Go.Proofs.YtkmklifflghojaaW.PrintWords Go.Proofs.YtkmklifflghojaaW.PrintLast Go.Proofs.YtkmklifflghojaaW.PrintMore

theorem w64 {x : Int} (h1 : -9223372036854775808 ≤ x) (h2 : x < 9223372036854775808) : wrap64 x = x := by
  unfold wrap64; omega

theorem tdiv_neg_of {a b : Int} (ha : a < 0) : Int.tdiv a b = -((-a) / b) := by
  have h : Int.tdiv (-(-a)) b = -((-a) / b) := by
    rw [Int.neg_tdiv, Int.tdiv_eq_ediv_of_nonneg (by omega)]
  rwa [Int.neg_neg] at h

theorem tmod_neg_of {a b : Int} (ha : a < 0) : Int.tmod a b = -((-a) % b) := by
  have h : Int.tmod (-(-a)) b = -((-a) % b) := by
    rw [Int.neg_tmod, Int.tmod_eq_emod_of_nonneg (by omega)]
  rwa [Int.neg_neg] at h

theorem tdiv_nn {a b : Int} (ha : 0 ≤ a) : Int.tdiv a b = a / b := Int.tdiv_eq_ediv_of_nonneg ha
theorem tmod_nn {a b : Int} (ha : 0 ≤ a) : Int.tmod a b = a % b := Int.tmod_eq_emod_of_nonneg ha

/-- A division of a non-negative number by a positive one lies between 0 and that number. -/
theorem ediv_rng {a b : Int} (ha : 0 ≤ a) (hb : 0 < b) : 0 ≤ a / b ∧ a / b ≤ a := by
  refine ⟨Int.ediv_nonneg ha (Int.le_of_lt hb), ?_⟩
  have h1 : a / b * 1 ≤ a / b * b := Int.mul_le_mul_of_nonneg_left (by omega) (Int.ediv_nonneg ha (Int.le_of_lt hb))
  have h2 := Int.ediv_mul_le a (b := b) (by omega)
  omega

/-- Go's division, corrected where the rest is negative, rounds down. -/
theorem floor_eq {a b : Int} (hb : 0 < b) (h1 : -4611686018427387904 ≤ a) (h2 : a ≤ 4611686018427387904) :
    (if Int.tmod a b < 0 then (some (wrap64 ((wrap64 (Int.tdiv a b)) - 1))) else (some (wrap64 (Int.tdiv a b)))) = some (a / b) := by
  by_cases ha : 0 ≤ a
  · rw [tdiv_nn ha, tmod_nn ha, if_neg (by have := Int.emod_nonneg a (b := b) (by omega); omega)]
    have := ediv_rng ha hb
    rw [w64 (by omega) (by omega)]
  · have hn : 0 ≤ -a := by omega
    rw [tdiv_neg_of (by omega), tmod_neg_of (by omega)]
    have hq := ediv_rng hn hb
    have hr0 := Int.emod_nonneg (-a) (b := b) (by omega)
    have hr1 := Int.emod_lt_of_pos (-a) hb
    have hd := Int.mul_ediv_add_emod (-a) b
    rw [w64 (x := -((-a) / b)) (by omega) (by omega)]
    by_cases hz : (-a) % b = 0
    · rw [if_neg (by omega)]
      have e : a / b = -((-a) / b) := by
        have e2 : a = b * (-((-a) / b)) := by rw [Int.mul_neg]; omega
        have e3 : b * (-((-a) / b)) / b = -((-a) / b) := Int.mul_ediv_cancel_left _ (by omega)
        rw [← e2] at e3; exact e3
      rw [e]
    · rw [if_pos (by omega), w64 (x := -((-a) / b) - 1) (by omega) (by omega)]
      have e : a / b = -((-a) / b) - 1 := by
        have e2 : a = (b - (-a) % b) + b * (-((-a) / b) - 1) := by rw [Int.mul_sub, Int.mul_neg]; omega
        have e3 : ((b - (-a) % b) + b * (-((-a) / b) - 1)) / b = (b - (-a) % b) / b + (-((-a) / b) - 1) := Int.add_mul_ediv_left _ _ (by omega)
        rw [← e2] at e3
        rw [e3, Int.ediv_eq_zero_of_lt (by omega) (by omega)]; omega
      rw [e]

theorem xor_nn {a b : Int} (ha : 0 ≤ a) (ha' : a < 4611686018427387904) (hb : 0 ≤ b) (hb' : b < 4611686018427387904) :
    0 ≤ Go.bits .xor .i64 a b := by
  obtain ⟨m, rfl⟩ := Int.eq_ofNat_of_zero_le ha
  obtain ⟨n, rfl⟩ := Int.eq_ofNat_of_zero_le hb
  have hm : m < 2 ^ 62 := by omega
  have hn : n < 2 ^ 62 := by omega
  have hx := Nat.xor_lt_two_pow hm hn
  have hm' : m % 2 ^ 64 = m := Nat.mod_eq_of_lt (by omega)
  have hn' : n % 2 ^ 64 = n := Nat.mod_eq_of_lt (by omega)
  have e : Go.bits .xor .i64 (m : Int) (n : Int) = ((m ^^^ n : Nat) : Int) := by
    show IntKind.i64.wrap ((BitVec.ofInt 64 (m : Int) ^^^ BitVec.ofInt 64 (n : Int)).toNat : Int) = _
    rw [BitVec.ofInt_natCast, BitVec.ofInt_natCast, BitVec.toNat_xor, BitVec.toNat_ofNat, BitVec.toNat_ofNat, hm', hn', IntKind.wrap_i64]
    omega
  rw [e]
  omega

theorem rd_rng {s : List Int} {lo hi : Int} (h : ∀ x ∈ s, lo ≤ x ∧ x ≤ hi) (h0 : lo ≤ 0) (h1 : 0 ≤ hi) (i : Int) : lo ≤ rd s i ∧ rd s i ≤ hi := by
  unfold rd
  rw [List.getD_eq_getElem?_getD]
  by_cases hi' : i.toNat < s.length
  · rw [List.getElem?_eq_getElem hi']; exact h _ (List.getElem_mem hi')
  · rw [List.getElem?_eq_none (by omega)]; exact ⟨h0, h1⟩

theorem bytes_rng {l : List Int} (h : ∀ x ∈ l, (Lit.int .u8 x).wf = true) : ∀ x ∈ l, 0 ≤ x ∧ x ≤ 255 := by
  intro x hx
  have := h x hx
  simp [Lit.wf, IntKind.min, IntKind.max, IntKind.bits, IntKind.signed] at this
  omega

theorem ints_rng {l : List Int} (h : ∀ x ∈ l, (Lit.int .i64 x).wf = true) : ∀ x ∈ l, -9223372036854775808 ≤ x ∧ x < 9223372036854775808 := by
  intro x hx
  have := h x hx
  simp [Lit.wf, IntKind.min, IntKind.max, IntKind.bits, IntKind.signed] at this
  omega

end Go.Proofs.Ytkmklifflghojaa.Base
