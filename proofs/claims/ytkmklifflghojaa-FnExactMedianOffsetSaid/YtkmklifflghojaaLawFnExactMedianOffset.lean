/- The law FnExactMedianOffset holds for every input: the row, out of its pure theorem and the contracts of the functions that it calls; no condition. -/
import Derived.Test.YtkmklifflghojaaRows
import Derived.Test.YtkmklifflghojaaPAllx13
import Derived.Test.YtkmklifflghojaaPureFnExactMedianOffset
import Derived.Test.YtkmklifflghojaaOpened
import Derived.Test.YtkmklifflghojaaWSized
import Derived.WalkKit
import Derived.ProofKit
import Derived.OpenShut
import Derived.ShutString
import Derived.ChangeOld
import Derived.Below
import Derived.SizedLaws
namespace Go.Proofs.Ytkmklifflghojaa.fnExactMedianOffset
open Go.ChangeShapes Go.WideShapes Go.ChangeAt Go.RowKit Go.Proofs.YtkmklifflghojaaW.PrintWords Go.Proofs.Ytkmklifflghojaa.Opened Go.Proofs.Ytkmklifflghojaa.PAll
set_option linter.unusedVariables false
theorem own : ownKnob Try.prog.godebug = none := by kernel_rfl
theorem laidOut : laidOutB Try.prog = true := by kernel_rfl
theorem walk (w : World) (a0 : Option Addr) (cap0 : Nat) (l0 : List S56) (hr0 : k56.C w a0 l0.length l0) (hc0 : l0.length ≤ cap0) (hm0 : l0.length ≤ maxLen) :
    Calls Try.prog 6 #[.slice a0 l0.length cap0] w fun e w' => e = .returned (.bool true) ∧ Below w.heap.size w w' := by
  obtain ⟨k, h⟩ := Pure.FnExactMedianOffset l0 hm0
  refine (laws_FnExactMedianOffset.calls k a0 _ l0 true w hr0 hc0 h).mono ?_
  rintro e w' ⟨rfl, hd⟩
  exact ⟨rfl, hd⟩
set_option maxRecDepth 100000 in
theorem lifted (os : Os) (started : os.Started) (H : Type) (enc : TypeId × Value → H) :
    ReturnsInHanded {} Try.checked os 6 .any (Rows.fnExactMedianOffsetSpec.pre6 enc Try.prog Try.f6 Rows.fnExactMedianOffsetRow.domain false) (Rows.fnExactMedianOffsetSpec.post enc Try.prog Try.f6 false true false false) := by
  refine returnsInHanded_of_change_sized (C := Try.checked) own started (by kernel_rfl) Try.func6
    (ChangeSpec.witness6 (enc := enc) (C := Try.checked) false ⟨#[], #[.slice none 0 0], []⟩ 8 (by kernel_rfl) (by kernel_rfl) (by kernel_rfl) (by kernel_rfl)) ?_
  intro W base args ds gs before hval0 hW hcnd hsz0 _
  have hsz : (DataW.weightsEach Try.prog (Try.f6.params.toList ++ Rows.fnExactMedianOffsetSpec.plain.varTypes Try.prog) (ds ++ gs)).all (· ≤ reachBytes) = true := hsz0
  have hval : ∀ (j : Nat) t v, Try.f6.params[j]? = some t → args[j]? = some v → Value.okWide Try.prog W .any base t v := hval0
  have hW' := hW
  obtain ⟨p, q, hA0, hV, rfl, hfz, hnd⟩ := hW
  have hA : DataW.TrodAll enc Try.prog W 0 (fun _ => true) true Try.f6.params.toList args.toList ds p := hA0
  rw [Try.params6] at hA hval hsz
  obtain ⟨v0, vs0, d0, ds0, p0, q0, hargs, rfl, rfl, h0, r0⟩ := trodAll_cons hA
  obtain ⟨rfl, rfl, rfl⟩ := trodAll_nil r0
  obtain rfl : args = #[v0] := by cases args; simp_all
  obtain ⟨rfl, rfl⟩ := trodVars_none hV
  obtain ⟨a0, len0, cap0, rfl⟩ := okWide_slice Try.underlying34 (hval 0 34 v0 rfl rfl)
  have k0 := h0
  have lt0 : ∀ x ∈ p0, x.block < W.heap.size := by obtain ⟨m, hm⟩ := k0; exact DataW.trod_lt m _ _ _ hm
  obtain ⟨l0, rfl, hr0, hc0, hm0, _⟩ := rows3 (fun x y z => (⟨x, y, z⟩ : S56)) k56 rfl (fun x y z => k56_mk W ⟨x, y, z⟩) (slice_cells Try.underlying34 Try.underlying56 (by kernel_rfl) (by kernel_rfl) (by rintro (_ | _ | _ | j) f h <;> simp at h <;> (try subst h) <;> exact Try.underlying3) h0)
  clear hA0 hval0 hsz0 hsz
  refine (walk W a0 cap0 l0 hr0 hc0 hm0).mono fun e W' ⟨he, bel⟩ => ?_
  subst he
  exact ⟨_, rfl, _, _, _, [], _, [], hW', trodAll_mk1 (shut_bool Try.underlying4 _), (trodAll_cons_mk (Below.trod laidOut (by kernel_rfl) (of_decide_eq_true (by kernel_rfl)) k0 bel lt0) trodAll_mk0), rfl, bel.frame _, fun h => by cases h⟩
theorem over : Rows.fnExactMedianOffsetRow.holds Try.pinned (OpenSpec.ofChange Rows.fnExactMedianOffsetSpec) :=
  OpenClaim.holds_of_wide 6 Try.f6 rfl rfl rfl rfl rfl rfl rfl ⟨rfl, rfl, rfl, rfl, rfl⟩ rfl rfl rfl rfl rfl (by kernel_rfl) Try.func6 (by kernel_rfl)
    (of_decide_eq_true (by kernel_rfl)) (by unfold Func.isWrapper; first | (rw [if_pos (by decide +kernel)]; kernel_rfl) | (rw [if_neg (by decide +kernel)]; exact ⟨rfl, rfl⟩))
    (fun os started H enc _ => lifted os started H enc)
theorem proved : Rows.FnExactMedianOffsetSaid := over
#print axioms proved
end Go.Proofs.Ytkmklifflghojaa.fnExactMedianOffset
namespace Go.Proofs.Ytkmklifflghojaa
/-- The row, under a short name, for the claim. -/
theorem fnExactMedianOffset_holds : Rows.FnExactMedianOffsetSaid := fnExactMedianOffset.proved
end Go.Proofs.Ytkmklifflghojaa
