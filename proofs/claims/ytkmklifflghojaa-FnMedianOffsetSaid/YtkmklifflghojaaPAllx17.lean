/- Contracts of the Go functions that this seat's laws reach: each call returns what the plain function beside it tells, and leaves what was there; no condition but that result. Written by a program of this session (pmore.py, over the kit's print). -/
import Derived.Test.YtkmklifflghojaaPAllx0
import Derived.Test.YtkmklifflghojaaPAllx2
import Derived.Test.YtkmklifflghojaaPAllx9
import Derived.Test.YtkmklifflghojaaPAllx12
import Derived.Test.YtkmklifflghojaaPAllx16
namespace Go.Proofs.Ytkmklifflghojaa.PAll
open Go.RowKit Go.Proofs.YtkmklifflghojaaW.PrintWords Go.Proofs.YtkmklifflghojaaW.PrintLast Go.Proofs.YtkmklifflghojaaW.PrintMore
attribute [local go_sem] max2_int min2_int max_two min_two max_three min_three max_four min_four   -- for this text's walks alone
set_option linter.unusedVariables false
set_option linter.unusedSimpArgs false

/-! ### laws_FnMedianOffset: function 7 -/
mutual
def laws_FnMedianOffset.j0 : Nat → List (S32) → Int → Bool → Option (Bool)
 | 0, _, _, _ => none
 | k + 1, x3, x4, x24 => if x24 = true then ((spec_MedianOffset.f k x3).bind fun t480 => (some (x4 == t480))) else (laws_FnMedianOffset.l0 k x3 x4 0 0 false 0)
def laws_FnMedianOffset.l0 : Nat → List (S32) → Int → Int → Int → Bool → Int → Option (Bool)
 | 0, _, _, _, _, _, _ => none
 | k + 1, x3, x4, x5, x6, x7, x8 => if x8 < (x3.length : Int) then (if x7 = true then (laws_FnMedianOffset.j2 k x3 x4 x5 x6 true x8) else (if 0 ≤ x8 then (laws_FnMedianOffset.j2 k x3 x4 x5 x6 (((rd_T32 x3 x8).f0) == x4) x8) else (none))) else (if x7 = true then (if (wrap64 (2 * x5)) ≥ (x3.length : Int) then (some (decide ((wrap64 (2 * x6)) ≥ (x3.length : Int)))) else (some false)) else (some false))
def laws_FnMedianOffset.j2 : Nat → List (S32) → Int → Int → Int → Bool → Int → Option (Bool)
 | 0, _, _, _, _, _, _ => none
 | k + 1, x3, x4, x5, x6, x7, x8 => if 0 ≤ x8 then (if x8 < (x3.length : Int) then (if ((rd_T32 x3 x8).f0) ≤ x4 then (if ((rd_T32 x3 x8).f0) ≥ x4 then (laws_FnMedianOffset.l0 k x3 x4 (wrap64 (x5 + 1)) (wrap64 (x6 + 1)) x7 (wrap64 (x8 + 1))) else (laws_FnMedianOffset.l0 k x3 x4 (wrap64 (x5 + 1)) x6 x7 (wrap64 (x8 + 1)))) else (if ((rd_T32 x3 x8).f0) ≥ x4 then (laws_FnMedianOffset.l0 k x3 x4 x5 (wrap64 (x6 + 1)) x7 (wrap64 (x8 + 1))) else (laws_FnMedianOffset.l0 k x3 x4 x5 x6 x7 (wrap64 (x8 + 1))))) else (none)) else (none)
end
def laws_FnMedianOffset.f (k : Nat) (l0 : List Int) : Option (Bool) := if (l0.length : Int) > 1048576 then (some true) else ((spec_DrawMedianOffset.f k l0).bind fun t474 => ((impl_MedianOffset.f k t474).bind fun t477 => ((spec_MedianOffset.f k t474).bind fun t478 => (if t477 = t478 then ((impl_ValidSamples.f t474).bind fun t479 => (laws_FnMedianOffset.j0 k t474 t477 (!t479))) else (laws_FnMedianOffset.j0 k t474 t477 true)))))
theorem laws_FnMedianOffset.mono_l : ∀ k, (∀ y0 y1 y2, LeO (laws_FnMedianOffset.j0 k y0 y1 y2) (laws_FnMedianOffset.j0 (k + 1) y0 y1 y2)) ∧ (∀ y0 y1 y2 y3 y4 y5, LeO (laws_FnMedianOffset.l0 k y0 y1 y2 y3 y4 y5) (laws_FnMedianOffset.l0 (k + 1) y0 y1 y2 y3 y4 y5)) ∧ (∀ y0 y1 y2 y3 y4 y5, LeO (laws_FnMedianOffset.j2 k y0 y1 y2 y3 y4 y5) (laws_FnMedianOffset.j2 (k + 1) y0 y1 y2 y3 y4 y5))
 | 0 => ⟨fun _ _ _ r h => by simp [laws_FnMedianOffset.j0] at h, fun _ _ _ _ _ _ r h => by simp [laws_FnMedianOffset.l0] at h, fun _ _ _ _ _ _ r h => by simp [laws_FnMedianOffset.j2] at h⟩
 | k + 1 => by
  obtain ⟨ih0, ih1, ih2⟩ := laws_FnMedianOffset.mono_l k
  refine ⟨?_, ?_, ?_⟩
  · intro y0 y1 y2
    unfold laws_FnMedianOffset.j0
    repeat' first
    | (with_reducible exact ih0 _ _ _)
    | (with_reducible exact ih1 _ _ _ _ _ _)
    | (with_reducible exact ih2 _ _ _ _ _ _)
    | (with_reducible exact impl_MedianOffset.mono _ _)
    | (with_reducible exact spec_DrawMedianOffset.mono _ _)
    | (with_reducible exact spec_MedianOffset.mono _ _)
    | (with_reducible exact LeO.refl _)
    | (with_reducible exact LeO.none _)
    | (with_reducible refine LeO.ite ?_ ?_)
    | (with_reducible refine LeO.bind ?_ (fun _ => ?_))
    | exact ih0 _ _ _
    | exact ih1 _ _ _ _ _ _
    | exact ih2 _ _ _ _ _ _
    | exact impl_MedianOffset.mono _ _
    | exact spec_DrawMedianOffset.mono _ _
    | exact spec_MedianOffset.mono _ _
    | exact LeO.none _
    | refine LeO.ite ?_ ?_
    | refine LeO.bind ?_ (fun _ => ?_)
  · intro y0 y1 y2 y3 y4 y5
    unfold laws_FnMedianOffset.l0
    repeat' first
    | (with_reducible exact ih0 _ _ _)
    | (with_reducible exact ih1 _ _ _ _ _ _)
    | (with_reducible exact ih2 _ _ _ _ _ _)
    | (with_reducible exact impl_MedianOffset.mono _ _)
    | (with_reducible exact spec_DrawMedianOffset.mono _ _)
    | (with_reducible exact spec_MedianOffset.mono _ _)
    | (with_reducible exact LeO.refl _)
    | (with_reducible exact LeO.none _)
    | (with_reducible refine LeO.ite ?_ ?_)
    | (with_reducible refine LeO.bind ?_ (fun _ => ?_))
    | exact ih0 _ _ _
    | exact ih1 _ _ _ _ _ _
    | exact ih2 _ _ _ _ _ _
    | exact impl_MedianOffset.mono _ _
    | exact spec_DrawMedianOffset.mono _ _
    | exact spec_MedianOffset.mono _ _
    | exact LeO.none _
    | refine LeO.ite ?_ ?_
    | refine LeO.bind ?_ (fun _ => ?_)
  · intro y0 y1 y2 y3 y4 y5
    unfold laws_FnMedianOffset.j2
    repeat' first
    | (with_reducible exact ih0 _ _ _)
    | (with_reducible exact ih1 _ _ _ _ _ _)
    | (with_reducible exact ih2 _ _ _ _ _ _)
    | (with_reducible exact impl_MedianOffset.mono _ _)
    | (with_reducible exact spec_DrawMedianOffset.mono _ _)
    | (with_reducible exact spec_MedianOffset.mono _ _)
    | (with_reducible exact LeO.refl _)
    | (with_reducible exact LeO.none _)
    | (with_reducible refine LeO.ite ?_ ?_)
    | (with_reducible refine LeO.bind ?_ (fun _ => ?_))
    | exact ih0 _ _ _
    | exact ih1 _ _ _ _ _ _
    | exact ih2 _ _ _ _ _ _
    | exact impl_MedianOffset.mono _ _
    | exact spec_DrawMedianOffset.mono _ _
    | exact spec_MedianOffset.mono _ _
    | exact LeO.none _
    | refine LeO.ite ?_ ?_
    | refine LeO.bind ?_ (fun _ => ?_)
theorem laws_FnMedianOffset.mono : ∀ a0 k, LeO (laws_FnMedianOffset.f k a0) (laws_FnMedianOffset.f (k + 1) a0) := by
 intro a0 k
 obtain ⟨ih0, ih1, ih2⟩ := laws_FnMedianOffset.mono_l k
 unfold laws_FnMedianOffset.f
 repeat' first
  | (with_reducible exact ih0 _ _ _)
  | (with_reducible exact ih1 _ _ _ _ _ _)
  | (with_reducible exact ih2 _ _ _ _ _ _)
  | (with_reducible exact impl_MedianOffset.mono _ _)
  | (with_reducible exact spec_DrawMedianOffset.mono _ _)
  | (with_reducible exact spec_MedianOffset.mono _ _)
  | (with_reducible exact LeO.refl _)
  | (with_reducible exact LeO.none _)
  | (with_reducible refine LeO.ite ?_ ?_)
  | (with_reducible refine LeO.bind ?_ (fun _ => ?_))
  | exact ih0 _ _ _
  | exact ih1 _ _ _ _ _ _
  | exact ih2 _ _ _ _ _ _
  | exact impl_MedianOffset.mono _ _
  | exact spec_DrawMedianOffset.mono _ _
  | exact spec_MedianOffset.mono _ _
  | exact LeO.none _
  | refine LeO.ite ?_ ?_
  | refine LeO.bind ?_ (fun _ => ?_)
set_option maxHeartbeats 8000000 in
set_option maxRecDepth 100000 in
theorem laws_FnMedianOffset.calls (k : Nat) (A0 : Option Addr) (c0 : Nat) (l0 : List Int) (r : Bool) (w : World) (hr0 : Kd.C (Kd.int .u8) w A0 l0.length l0) (hc0 : l0.length ≤ c0) (h : laws_FnMedianOffset.f k l0 = some r) :
 Calls Try.prog 7 #[.slice A0 l0.length c0] w fun e w' => e = .returned (.bool r) ∧ Below w.heap.size w w' := by
 have HR0 := Aside0.mk hr0
 have HC0 := Aside0.mk hc0
 clear hr0 hc0
 have HB := Aside0.mk (Below.refl w.heap.size w)
 have H : (if (l0.length : Int) > 1048576 then (some true) else ((spec_DrawMedianOffset.f k l0).bind fun t474 => ((impl_MedianOffset.f k t474).bind fun t477 => ((spec_MedianOffset.f k t474).bind fun t478 => (if t477 = t478 then ((impl_ValidSamples.f t474).bind fun t479 => (laws_FnMedianOffset.j0 k t474 t477 (!t479))) else (laws_FnMedianOffset.j0 k t474 t477 true)))))) = some r := h
 clear h
 by_cases c2 : (l0.length : Int) > 1048576
 · rw [if_pos c2] at H
   have c2b0 : decide (1048576 < (l0.length : Int)) = true := decide_eq_true c2
   have c2b1 : decide (1048576 < l0.length) = true := decide_eq_true (by omega)
   clear c2
   obtain rfl := Option.some.inj H
   go_enter Try.func7, Try.ntmps7
   go_wp2
   go_ret
   exact ⟨by first | rfl | (simp [errW_none, errW_some] <;> rfl) | (simp [*, errW_none, errW_some] <;> rfl), by repeat (first | (with_reducible first | exact HB.out | apply below_alloc | apply pw_below_drewN | apply below_drew1) | exact HB.out)⟩
 · rw [if_neg c2] at H
   have c2b0 : decide (1048576 < (l0.length : Int)) = false := decide_eq_false c2
   have c2b1 : decide (1048576 < l0.length) = false := decide_eq_false (by omega)
   clear c2
   replace H := Option.bind_eq_some_iff.mp H
   obtain ⟨t474, A30, H⟩ := H
   replace H : ((impl_MedianOffset.f k t474).bind fun t477 => ((spec_MedianOffset.f k t474).bind fun t478 => (if t477 = t478 then ((impl_ValidSamples.f t474).bind fun t479 => (laws_FnMedianOffset.j0 k t474 t477 (!t479))) else (laws_FnMedianOffset.j0 k t474 t477 true)))) = some r := H
   have A3 := Aside0.mk A30
   clear A30
   replace H := Option.bind_eq_some_iff.mp H
   obtain ⟨t477, A40, H⟩ := H
   replace H : ((spec_MedianOffset.f k t474).bind fun t478 => (if t477 = t478 then ((impl_ValidSamples.f t474).bind fun t479 => (laws_FnMedianOffset.j0 k t474 t477 (!t479))) else (laws_FnMedianOffset.j0 k t474 t477 true))) = some r := H
   have A4 := Aside0.mk A40
   clear A40
   have HC5 := Aside0.mk H
   clear H
   go_enter Try.func7, Try.ntmps7
   go_upto_region 5 with (first | ((with_reducible refine gate_callee (f := 25) rfl ?_); refine goesL_ (some 13) rfl rfl Try.func25 (by kernel_rfl) rfl #[.slice A0 l0.length c0] rfl (by (try simp only [List.map_toArray, List.map_cons, List.map_nil]); first | done | rfl | (simp only [List.length_drop, List.length_take]; rfl)) ?_; (with_reducible refine (spec_DrawMedianOffset.calls k _ _ l0 t474 _ ?side1 ?side2 A3.out).mono ?_); (case side1 => repeat (first | exact HR0.out | (with_reducible refine Kd.C_alloc ?_ _) | (with_reducible refine Kd.C_drewN ?_ _) | (with_reducible refine Kd.C_drew ?_))); (case side2 => exact HC0.out); rintro e w6 ⟨v475, rfl, ho0, hb⟩; refine ⟨_, rfl, ?_⟩; have n0_ := Aside0.mk (Kd.R_lower ho0 (below_size (by repeat (first | (with_reducible first | exact HB.out | apply below_alloc | apply pw_below_drewN | apply below_drew1) | exact HB.out)))); have n1_ := Aside0.mk (below_step (by repeat (first | (with_reducible first | exact HB.out | apply below_alloc | apply pw_below_drewN | apply below_drew1) | exact HB.out)) hb); clear HB; have HO476 := n0_; have HB := n1_; clear n0_ n1_; (try clear hb); (try clear hb2); (try clear hk); (try clear hi); (try clear ho0); obtain ⟨Ao7, co7, eo7⟩ := Kd.R_slice HO476.out; subst eo7) | ((with_reducible refine gate_callee (f := 17) rfl ?_); refine goesL_ (some 15) rfl rfl Try.func17 (by kernel_rfl) rfl #[.slice Ao7 t474.length co7] rfl (by (try simp only [List.map_toArray, List.map_cons, List.map_nil]); first | done | rfl | (simp only [List.length_drop, List.length_take]; rfl)) ?_; (with_reducible refine (impl_MedianOffset.calls k _ _ t474 t477 _ ?side1 ?side2 A4.out).mono ?_); (case side1 => repeat (first | exact (Kd.R_reads' HO476.out).2.2 | (with_reducible refine Kd.C_alloc ?_ _) | (with_reducible refine Kd.C_drewN ?_ _) | (with_reducible refine Kd.C_drew ?_))); (case side2 => exact (Kd.R_reads' HO476.out).2.1); rintro e w8 ⟨rfl, hb⟩; refine ⟨_, rfl, ?_⟩; have n0_ := Aside0.mk (Kd.R_below (by (with_reducible repeat (first | apply Kd.R_alloc | apply Kd.R_drewN | apply Kd.R_drew)); exact HO476.out) hb); have n1_ := Aside0.mk (below_step (by repeat (first | (with_reducible first | exact HB.out | apply below_alloc | apply pw_below_drewN | apply below_drew1) | exact HB.out)) hb); clear HO476; clear HB; have HO476 := n0_; have HB := n1_; clear n0_ n1_; (try clear hb); (try clear hb2); (try clear hk); (try clear hi)))
   (try simp only [Act.put, List.setIfInBounds_toArray, List.set_cons_zero, List.set_cons_succ])
   go_cut [24] (fun v24 wc => ∃ (kq : Nat) (x24_4 : Bool), v24 = .bool x24_4 ∧ Aside0 (laws_FnMedianOffset.j0 kq t474 t477 x24_4 = some r) ∧ Aside0 (kq ≤ k) ∧ Aside0 (Kd.R k32 32 wc w.heap.size (fun _ => True) (.slice Ao7 t474.length co7) t474) ∧ Aside0 (Below w.heap.size w wc))
   case first =>
    have H := HC5.out
    clear HC5
    replace H := Option.bind_eq_some_iff.mp H
    obtain ⟨t478, A90, H⟩ := H
    replace H : (if t477 = t478 then ((impl_ValidSamples.f t474).bind fun t479 => (laws_FnMedianOffset.j0 k t474 t477 (!t479))) else (laws_FnMedianOffset.j0 k t474 t477 true)) = some r := H
    have A9 := Aside0.mk A90
    clear A90
    by_cases c10 : t477 = t478
    · rw [if_pos c10] at H
      have c10b0 : (t477 == t478) = true := beq_iff_eq.mpr c10
      have c10b1 : (t477 != t478) = false := bne_eq_false_iff_eq.mpr c10
      clear c10
      (first | rw [c10b0] | (simp only [i64_w, i32_w]; rw [c10b0]) | skip)
      replace H := Option.bind_eq_some_iff.mp H
      obtain ⟨t479, A110, H⟩ := H
      replace H : (laws_FnMedianOffset.j0 k t474 t477 (!t479)) = some r := H
      have A11 := Aside0.mk A110
      clear A110
      have H' := Aside0.mk H
      clear H
      go_wp2_with (first | ((with_reducible refine gate_callee (f := 24) rfl ?_); refine goesL_ (some 18) rfl rfl Try.func24 (by kernel_rfl) rfl #[.slice Ao7 t474.length co7] rfl (by (try simp only [List.map_toArray, List.map_cons, List.map_nil]); first | done | rfl | (simp only [List.length_drop, List.length_take]; rfl)) ?_; (with_reducible refine (spec_MedianOffset.calls k _ _ t474 t478 _ ?side1 ?side2 A9.out).mono ?_); (case side1 => repeat (first | exact (Kd.R_reads' HO476.out).2.2 | (with_reducible refine Kd.C_alloc ?_ _) | (with_reducible refine Kd.C_drewN ?_ _) | (with_reducible refine Kd.C_drew ?_))); (case side2 => exact (Kd.R_reads' HO476.out).2.1); rintro e w12 ⟨rfl, hb⟩; refine ⟨_, rfl, ?_⟩; have n0_ := Aside0.mk (Kd.R_below (by (with_reducible repeat (first | apply Kd.R_alloc | apply Kd.R_drewN | apply Kd.R_drew)); exact HO476.out) hb); have n1_ := Aside0.mk (below_step (by repeat (first | (with_reducible first | exact HB.out | apply below_alloc | apply pw_below_drewN | apply below_drew1) | exact HB.out)) hb); clear HO476; clear HB; have HO476 := n0_; have HB := n1_; clear n0_ n1_; (try clear hb); (try clear hb2); (try clear hk); (try clear hi)) | (go_at_call 15; (with_reducible refine (impl_ValidSamples.calls _ _ t474 t479 _ ?side1 ?side2 A11.out).mono ?_); (case side1 => repeat (first | exact (Kd.R_reads' HO476.out).2.2 | (with_reducible refine Kd.C_alloc ?_ _) | (with_reducible refine Kd.C_drewN ?_ _) | (with_reducible refine Kd.C_drew ?_))); (case side2 => exact (Kd.R_reads' HO476.out).2.1); rintro e w13 ⟨rfl, hb⟩; have n0_ := Aside0.mk (Kd.R_below (by (with_reducible repeat (first | apply Kd.R_alloc | apply Kd.R_drewN | apply Kd.R_drew)); exact HO476.out) hb); have n1_ := Aside0.mk (below_step (by repeat (first | (with_reducible first | exact HB.out | apply below_alloc | apply pw_below_drewN | apply below_drew1) | exact HB.out)) hb); clear HO476; clear HB; have HO476 := n0_; have HB := n1_; clear n0_ n1_; (try clear hb); (try clear hb2); (try clear hk); (try clear hi)))
      go_meet
      case rel => exact ⟨_, (!t479), (by first | rfl | (simp; done) | (simp [*]; done)), H', ⟨by first | omega | exact Nat.le_refl _⟩, ⟨by (with_reducible repeat (first | apply Kd.R_alloc | apply Kd.R_drewN | apply Kd.R_drew)); exact HO476.out⟩, ⟨by repeat (first | (with_reducible first | exact HB.out | apply below_alloc | apply pw_below_drewN | apply below_drew1) | exact HB.out)⟩⟩
    · rw [if_neg c10] at H
      have c10b0 : (t477 == t478) = false := beq_eq_false_iff_ne.mpr c10
      have c10b1 : (t477 != t478) = true := bne_iff_ne.mpr c10
      (first | rw [c10b0] | (simp only [i64_w, i32_w]; rw [c10b0]) | skip)
      have H' := Aside0.mk H
      clear H
      go_wp2_with (first | ((with_reducible refine gate_callee (f := 24) rfl ?_); refine goesL_ (some 18) rfl rfl Try.func24 (by kernel_rfl) rfl #[.slice Ao7 t474.length co7] rfl (by (try simp only [List.map_toArray, List.map_cons, List.map_nil]); first | done | rfl | (simp only [List.length_drop, List.length_take]; rfl)) ?_; (with_reducible refine (spec_MedianOffset.calls k _ _ t474 t478 _ ?side1 ?side2 A9.out).mono ?_); (case side1 => repeat (first | exact (Kd.R_reads' HO476.out).2.2 | (with_reducible refine Kd.C_alloc ?_ _) | (with_reducible refine Kd.C_drewN ?_ _) | (with_reducible refine Kd.C_drew ?_))); (case side2 => exact (Kd.R_reads' HO476.out).2.1); rintro e w14 ⟨rfl, hb⟩; refine ⟨_, rfl, ?_⟩; have n0_ := Aside0.mk (Kd.R_below (by (with_reducible repeat (first | apply Kd.R_alloc | apply Kd.R_drewN | apply Kd.R_drew)); exact HO476.out) hb); have n1_ := Aside0.mk (below_step (by repeat (first | (with_reducible first | exact HB.out | apply below_alloc | apply pw_below_drewN | apply below_drew1) | exact HB.out)) hb); clear HO476; clear HB; have HO476 := n0_; have HB := n1_; clear n0_ n1_; (try clear hb); (try clear hb2); (try clear hk); (try clear hi)))
      go_meet
      case rel => exact ⟨_, (true), (by first | rfl | (simp; done) | (simp [*]; done)), H', ⟨by first | omega | exact Nat.le_refl _⟩, ⟨by (with_reducible repeat (first | apply Kd.R_alloc | apply Kd.R_drewN | apply Kd.R_drew)); exact HO476.out⟩, ⟨by repeat (first | (with_reducible first | exact HB.out | apply below_alloc | apply pw_below_drewN | apply below_drew1) | exact HB.out)⟩⟩
   case rest =>
    clear HC5
    try clear c1
    try clear c2
    try clear c2b0
    try clear c2b1
    try clear p2
    try clear c7
    try clear c10
    try clear c10b0
    try clear c10b1
    obtain ⟨kq, x24_4, rfl, HA, HJ4, HO_3, HB⟩ := hcut
    cases kq with
    | zero => exact absurd HA.out (by simp [laws_FnMedianOffset.j0])
    | succ kj4 =>
     have H := HA.out
     clear HA
     simp only [laws_FnMedianOffset.j0] at H
     by_cases c15 : x24_4 = true
     · subst c15
       have H1 : ((spec_MedianOffset.f kj4 t474).bind fun t480 => (some (t477 == t480))) = some r := by rw [if_pos rfl] at H; exact H
       clear H
       have H := H1
       clear H1
       replace H := Option.bind_eq_some_iff.mp H
       obtain ⟨t480, A160, H⟩ := H
       replace H : (some (t477 == t480)) = some r := H
       have A16 := Aside0.mk A160
       clear A160
       obtain rfl := Option.some.inj H
       go_wp2_with (first | ((with_reducible refine gate_callee (f := 24) rfl ?_); refine goesL_ (some 27) rfl rfl Try.func24 (by kernel_rfl) rfl #[.slice Ao7 t474.length co7] rfl (by (try simp only [List.map_toArray, List.map_cons, List.map_nil]); first | done | rfl | (simp only [List.length_drop, List.length_take]; rfl)) ?_; (with_reducible refine (spec_MedianOffset.calls kj4 _ _ t474 t480 _ ?side1 ?side2 A16.out).mono ?_); (case side1 => repeat (first | exact (Kd.R_reads' HO_3.out).2.2 | (with_reducible refine Kd.C_alloc ?_ _) | (with_reducible refine Kd.C_drewN ?_ _) | (with_reducible refine Kd.C_drew ?_))); (case side2 => exact (Kd.R_reads' HO_3.out).2.1); rintro e w17 ⟨rfl, hb⟩; refine ⟨_, rfl, ?_⟩; have n0_ := Aside0.mk (Kd.R_below (by (with_reducible repeat (first | apply Kd.R_alloc | apply Kd.R_drewN | apply Kd.R_drew)); exact HO_3.out) hb); have n1_ := Aside0.mk (below_step (by repeat (first | (with_reducible first | exact HB.out | apply below_alloc | apply pw_below_drewN | apply below_drew1) | exact HB.out)) hb); clear HO_3; clear HB; have HO_3 := n0_; have HB := n1_; clear n0_ n1_; (try clear hb); (try clear hb2); (try clear hk); (try clear hi)))
       go_ret
       exact ⟨by first | rfl | (simp [errW_none, errW_some] <;> rfl) | (simp [*, errW_none, errW_some] <;> rfl), by repeat (first | (with_reducible first | exact HB.out | apply below_alloc | apply pw_below_drewN | apply below_drew1) | exact HB.out)⟩
     · replace c15 := Bool.eq_false_iff.mpr c15
       subst c15
       have H1 : (laws_FnMedianOffset.l0 kj4 t474 t477 0 0 false 0) = some r := by rw [if_neg (show ¬ (false = true) by decide)] at H; exact H
       clear H
       have H := H1
       clear H1
       have H' := Aside0.mk H
       clear H
       go_wp2
       go_loopg [5, 6, 7, 8] kj4 (fun kq v5 v6 v7 v8 w' => ∃ (x5_2 : Int) (x6_2 : Int) (x7_2 : Bool) (x8_2 : Int), v5 = .int .i64 x5_2 ∧ v6 = .int .i64 x6_2 ∧ v7 = .bool x7_2 ∧ v8 = .int .i64 x8_2 ∧ Aside0 (laws_FnMedianOffset.l0 kq t474 t477 x5_2 x6_2 x7_2 x8_2 = some r) ∧ Aside0 (kq ≤ kj4) ∧ Aside0 (Kd.R k32 32 w' w.heap.size (fun _ => True) (.slice Ao7 t474.length co7) t474) ∧ Aside0 (Below w.heap.size w w'))
       case atStart => exact ⟨(0), (0), (false), (0), (by first | rfl | (simp; done) | (simp [*]; done)), (by first | rfl | (simp; done) | (simp [*]; done)), (by first | rfl | (simp; done) | (simp [*]; done)), (by first | rfl | (simp; done) | (simp [*]; done)), H', ⟨Nat.le_refl _⟩, ⟨by (with_reducible repeat (first | apply Kd.R_alloc | apply Kd.R_drewN | apply Kd.R_drew)); exact HO_3.out⟩, ⟨by repeat (first | (with_reducible first | exact HB.out | apply below_alloc | apply pw_below_drewN | apply below_drew1) | exact HB.out)⟩⟩
       case round =>
        clear H'
        try clear c1
        try clear c2
        try clear c2b0
        try clear c2b1
        try clear p2
        try clear c7
        try clear c10
        try clear c10b0
        try clear c10b1
        try clear c15
        try clear c17
        try clear p2
        obtain ⟨x5_2, x6_2, x7_2, x8_2, rfl, rfl, rfl, rfl, HA, HK2, HO_3, HB⟩ := hrel
        cases gk with
        | zero => exact absurd HA.out (by simp [laws_FnMedianOffset.l0])
        | succ k2 =>
         have H := HA.out
         clear HA
         simp only [laws_FnMedianOffset.l0] at H
         by_cases c18 : x8_2 < (t474.length : Int)
         · rw [if_pos c18] at H
           have c18b0 : decide (x8_2 < (t474.length : Int)) = true := decide_eq_true c18
           clear c18
           have HC19 := Aside0.mk H
           clear H
           go_upto_region 13 with (fail)
           go_cut [7] (fun v7 wc => ∃ (kq : Nat) (x7_18 : Bool), v7 = .bool x7_18 ∧ Aside0 (laws_FnMedianOffset.j2 kq t474 t477 x5_2 x6_2 x7_18 x8_2 = some r) ∧ Aside0 (kq ≤ k2) ∧ Aside0 (Kd.R k32 32 wc w.heap.size (fun _ => True) (.slice Ao7 t474.length co7) t474) ∧ Aside0 (Below w.heap.size w wc))
           case first =>
            have H := HC19.out
            clear HC19
            by_cases c20 : x7_2 = true
            · subst c20
              have H1 : (laws_FnMedianOffset.j2 k2 t474 t477 x5_2 x6_2 true x8_2) = some r := by rw [if_pos rfl] at H; exact H
              clear H
              have H := H1
              clear H1
              have H' := Aside0.mk H
              clear H
              go_wp2
              go_meet
              case rel => exact ⟨_, (true), (by first | rfl | (simp; done) | (simp [*]; done)), H', ⟨by have := HJ4.out; have := HK2.out; first | omega | exact Nat.le_refl _⟩, ⟨by (with_reducible repeat (first | apply Kd.R_alloc | apply Kd.R_drewN | apply Kd.R_drew)); exact HO_3.out⟩, ⟨by repeat (first | (with_reducible first | exact HB.out | apply below_alloc | apply pw_below_drewN | apply below_drew1) | exact HB.out)⟩⟩
            · replace c20 := Bool.eq_false_iff.mpr c20
              subst c20
              have H1 : (if 0 ≤ x8_2 then (laws_FnMedianOffset.j2 k2 t474 t477 x5_2 x6_2 (((rd_T32 t474 x8_2).f0) == t477) x8_2) else (none)) = some r := by rw [if_neg (show ¬ (false = true) by decide)] at H; exact H
              clear H
              have H := H1
              clear H1
              by_cases c21 : 0 ≤ x8_2
              · rw [if_pos c21] at H
                have c21b0 : decide (0 ≤ x8_2) = true := decide_eq_true c21
                clear c21
                (first | rw [c21b0] | (simp only [i64_w, i32_w]; rw [c21b0]) | skip)
                have H' := Aside0.mk H
                clear H
                have p481 : 0 ≤ (x8_2 : Int) := of_decide_eq_true (by first | (with_reducible assumption) | assumption)
                have q481 : x8_2 < (t474.length : Int) := of_decide_eq_true (by first | (with_reducible assumption) | assumption)
                obtain ⟨ad481, e481, hx481_0, hx481_1, hx481_2⟩ := at_T32 (Kd.R_reads' HO_3.out).2.2 x8_2 p481 q481
                cases e481
                replace p481 := eq_true p481
                replace q481 := eq_true q481
                go_wp2
                go_meet
                case rel => exact ⟨_, ((((rd_T32 t474 x8_2).f0) == t477)), (by first | rfl | (simp; done) | (simp [*]; done)), H', ⟨by have := HJ4.out; have := HK2.out; first | omega | exact Nat.le_refl _⟩, ⟨by (with_reducible repeat (first | apply Kd.R_alloc | apply Kd.R_drewN | apply Kd.R_drew)); exact HO_3.out⟩, ⟨by repeat (first | (with_reducible first | exact HB.out | apply below_alloc | apply pw_below_drewN | apply below_drew1) | exact HB.out)⟩⟩
              · rw [if_neg c21] at H
                exact absurd H (by simp)
           case rest =>
            clear HC19
            try clear c1
            try clear c2
            try clear c2b0
            try clear c2b1
            try clear p2
            try clear p4
            try clear q4
            try clear hx4
            try clear c7
            try clear c10
            try clear c10b0
            try clear c10b1
            try clear c15
            try clear c17
            try clear c18
            try clear c18b0
            try clear c20
            try clear c21
            try clear c21b0
            try clear hx481_0
            try clear hx481_1
            try clear hx481_2
            try clear p2
            try clear p481
            try clear q481
            obtain ⟨kq, x7_18, rfl, HA, HJ18, HO_3, HB⟩ := hcut
            cases kq with
            | zero => exact absurd HA.out (by simp [laws_FnMedianOffset.j2])
            | succ kj18 =>
             have H := HA.out
             clear HA
             simp only [laws_FnMedianOffset.j2] at H
             by_cases c22 : 0 ≤ x8_2
             · rw [if_pos c22] at H
               have c22b0 : decide (0 ≤ x8_2) = true := decide_eq_true c22
               clear c22
               by_cases c23 : x8_2 < (t474.length : Int)
               · rw [if_pos c23] at H
                 have c23b0 : decide (x8_2 < (t474.length : Int)) = true := decide_eq_true c23
                 clear c23
                 by_cases c24 : ((rd_T32 t474 x8_2).f0) ≤ t477
                 · rw [if_pos c24] at H
                   have c24b0 : decide (((rd_T32 t474 x8_2).f0) ≤ t477) = true := decide_eq_true c24
                   clear c24
                   by_cases c25 : ((rd_T32 t474 x8_2).f0) ≥ t477
                   · rw [if_pos c25] at H
                     have c25b0 : decide (t477 ≤ ((rd_T32 t474 x8_2).f0)) = true := decide_eq_true c25
                     clear c25
                     have H' := Aside0.mk H
                     clear H
                     have p482 : 0 ≤ (x8_2 : Int) := of_decide_eq_true (by first | (with_reducible assumption) | assumption)
                     have q482 : x8_2 < (t474.length : Int) := of_decide_eq_true (by first | (with_reducible assumption) | assumption)
                     obtain ⟨ad482, e482, hx482_0, hx482_1, hx482_2⟩ := at_T32 (Kd.R_reads' HO_3.out).2.2 x8_2 p482 q482
                     cases e482
                     replace p482 := eq_true p482
                     replace q482 := eq_true q482
                     have p483 : 0 ≤ (x8_2 : Int) := of_decide_eq_true (by first | (with_reducible assumption) | assumption)
                     have q483 : x8_2 < (t474.length : Int) := of_decide_eq_true (by first | (with_reducible assumption) | assumption)
                     obtain ⟨ad483, e483, hx483_0, hx483_1, hx483_2⟩ := at_T32 (Kd.R_reads' HO_3.out).2.2 x8_2 p483 q483
                     obtain rfl : ad482 = ad483 := (by injection e483)
                     replace p483 := eq_true p483
                     replace q483 := eq_true q483
                     go_wp2
                     go_roundg kj18
                     case measure => have := HJ4.out; have := HK2.out; have := HJ18.out; omega
                     case rel => exact ⟨(wrap64 (x5_2 + 1)), (wrap64 (x6_2 + 1)), (x7_18), (wrap64 (x8_2 + 1)), (by first | rfl | (simp; done) | (simp [*]; done)), (by first | rfl | (simp; done) | (simp [*]; done)), (by first | rfl | (simp; done) | (simp [*]; done)), (by first | rfl | (simp; done) | (simp [*]; done)), H', ⟨by have := HJ4.out; have := HK2.out; have := HJ18.out; omega⟩, ⟨by (with_reducible repeat (first | apply Kd.R_alloc | apply Kd.R_drewN | apply Kd.R_drew)); exact HO_3.out⟩, ⟨by repeat (first | (with_reducible first | exact HB.out | apply below_alloc | apply pw_below_drewN | apply below_drew1) | exact HB.out)⟩⟩
                   · rw [if_neg c25] at H
                     have c25b0 : decide (t477 ≤ ((rd_T32 t474 x8_2).f0)) = false := decide_eq_false c25
                     clear c25
                     have H' := Aside0.mk H
                     clear H
                     have p482 : 0 ≤ (x8_2 : Int) := of_decide_eq_true (by first | (with_reducible assumption) | assumption)
                     have q482 : x8_2 < (t474.length : Int) := of_decide_eq_true (by first | (with_reducible assumption) | assumption)
                     obtain ⟨ad482, e482, hx482_0, hx482_1, hx482_2⟩ := at_T32 (Kd.R_reads' HO_3.out).2.2 x8_2 p482 q482
                     cases e482
                     replace p482 := eq_true p482
                     replace q482 := eq_true q482
                     have p483 : 0 ≤ (x8_2 : Int) := of_decide_eq_true (by first | (with_reducible assumption) | assumption)
                     have q483 : x8_2 < (t474.length : Int) := of_decide_eq_true (by first | (with_reducible assumption) | assumption)
                     obtain ⟨ad483, e483, hx483_0, hx483_1, hx483_2⟩ := at_T32 (Kd.R_reads' HO_3.out).2.2 x8_2 p483 q483
                     obtain rfl : ad482 = ad483 := (by injection e483)
                     replace p483 := eq_true p483
                     replace q483 := eq_true q483
                     go_wp2
                     go_roundg kj18
                     case measure => have := HJ4.out; have := HK2.out; have := HJ18.out; omega
                     case rel => exact ⟨(wrap64 (x5_2 + 1)), (x6_2), (x7_18), (wrap64 (x8_2 + 1)), (by first | rfl | (simp; done) | (simp [*]; done)), (by first | rfl | (simp; done) | (simp [*]; done)), (by first | rfl | (simp; done) | (simp [*]; done)), (by first | rfl | (simp; done) | (simp [*]; done)), H', ⟨by have := HJ4.out; have := HK2.out; have := HJ18.out; omega⟩, ⟨by (with_reducible repeat (first | apply Kd.R_alloc | apply Kd.R_drewN | apply Kd.R_drew)); exact HO_3.out⟩, ⟨by repeat (first | (with_reducible first | exact HB.out | apply below_alloc | apply pw_below_drewN | apply below_drew1) | exact HB.out)⟩⟩
                 · rw [if_neg c24] at H
                   have c24b0 : decide (((rd_T32 t474 x8_2).f0) ≤ t477) = false := decide_eq_false c24
                   clear c24
                   by_cases c26 : ((rd_T32 t474 x8_2).f0) ≥ t477
                   · rw [if_pos c26] at H
                     have c26b0 : decide (t477 ≤ ((rd_T32 t474 x8_2).f0)) = true := decide_eq_true c26
                     clear c26
                     have H' := Aside0.mk H
                     clear H
                     have p482 : 0 ≤ (x8_2 : Int) := of_decide_eq_true (by first | (with_reducible assumption) | assumption)
                     have q482 : x8_2 < (t474.length : Int) := of_decide_eq_true (by first | (with_reducible assumption) | assumption)
                     obtain ⟨ad482, e482, hx482_0, hx482_1, hx482_2⟩ := at_T32 (Kd.R_reads' HO_3.out).2.2 x8_2 p482 q482
                     cases e482
                     replace p482 := eq_true p482
                     replace q482 := eq_true q482
                     have p484 : 0 ≤ (x8_2 : Int) := of_decide_eq_true (by first | (with_reducible assumption) | assumption)
                     have q484 : x8_2 < (t474.length : Int) := of_decide_eq_true (by first | (with_reducible assumption) | assumption)
                     obtain ⟨ad484, e484, hx484_0, hx484_1, hx484_2⟩ := at_T32 (Kd.R_reads' HO_3.out).2.2 x8_2 p484 q484
                     obtain rfl : ad482 = ad484 := (by injection e484)
                     replace p484 := eq_true p484
                     replace q484 := eq_true q484
                     go_wp2
                     go_roundg kj18
                     case measure => have := HJ4.out; have := HK2.out; have := HJ18.out; omega
                     case rel => exact ⟨(x5_2), (wrap64 (x6_2 + 1)), (x7_18), (wrap64 (x8_2 + 1)), (by first | rfl | (simp; done) | (simp [*]; done)), (by first | rfl | (simp; done) | (simp [*]; done)), (by first | rfl | (simp; done) | (simp [*]; done)), (by first | rfl | (simp; done) | (simp [*]; done)), H', ⟨by have := HJ4.out; have := HK2.out; have := HJ18.out; omega⟩, ⟨by (with_reducible repeat (first | apply Kd.R_alloc | apply Kd.R_drewN | apply Kd.R_drew)); exact HO_3.out⟩, ⟨by repeat (first | (with_reducible first | exact HB.out | apply below_alloc | apply pw_below_drewN | apply below_drew1) | exact HB.out)⟩⟩
                   · rw [if_neg c26] at H
                     have c26b0 : decide (t477 ≤ ((rd_T32 t474 x8_2).f0)) = false := decide_eq_false c26
                     clear c26
                     have H' := Aside0.mk H
                     clear H
                     have p482 : 0 ≤ (x8_2 : Int) := of_decide_eq_true (by first | (with_reducible assumption) | assumption)
                     have q482 : x8_2 < (t474.length : Int) := of_decide_eq_true (by first | (with_reducible assumption) | assumption)
                     obtain ⟨ad482, e482, hx482_0, hx482_1, hx482_2⟩ := at_T32 (Kd.R_reads' HO_3.out).2.2 x8_2 p482 q482
                     cases e482
                     replace p482 := eq_true p482
                     replace q482 := eq_true q482
                     have p484 : 0 ≤ (x8_2 : Int) := of_decide_eq_true (by first | (with_reducible assumption) | assumption)
                     have q484 : x8_2 < (t474.length : Int) := of_decide_eq_true (by first | (with_reducible assumption) | assumption)
                     obtain ⟨ad484, e484, hx484_0, hx484_1, hx484_2⟩ := at_T32 (Kd.R_reads' HO_3.out).2.2 x8_2 p484 q484
                     obtain rfl : ad482 = ad484 := (by injection e484)
                     replace p484 := eq_true p484
                     replace q484 := eq_true q484
                     go_wp2
                     go_roundg kj18
                     case measure => have := HJ4.out; have := HK2.out; have := HJ18.out; omega
                     case rel => exact ⟨(x5_2), (x6_2), (x7_18), (wrap64 (x8_2 + 1)), (by first | rfl | (simp; done) | (simp [*]; done)), (by first | rfl | (simp; done) | (simp [*]; done)), (by first | rfl | (simp; done) | (simp [*]; done)), (by first | rfl | (simp; done) | (simp [*]; done)), H', ⟨by have := HJ4.out; have := HK2.out; have := HJ18.out; omega⟩, ⟨by (with_reducible repeat (first | apply Kd.R_alloc | apply Kd.R_drewN | apply Kd.R_drew)); exact HO_3.out⟩, ⟨by repeat (first | (with_reducible first | exact HB.out | apply below_alloc | apply pw_below_drewN | apply below_drew1) | exact HB.out)⟩⟩
               · rw [if_neg c23] at H
                 exact absurd H (by simp)
             · rw [if_neg c22] at H
               exact absurd H (by simp)
         · rw [if_neg c18] at H
           have c18b0 : decide (x8_2 < (t474.length : Int)) = false := decide_eq_false c18
           clear c18
           by_cases c27 : x7_2 = true
           · subst c27
             have H1 : (if (wrap64 (2 * x5_2)) ≥ (t474.length : Int) then (some (decide ((wrap64 (2 * x6_2)) ≥ (t474.length : Int)))) else (some false)) = some r := by rw [if_pos rfl] at H; exact H
             clear H
             have H := H1
             clear H1
             by_cases c28 : (wrap64 (2 * x5_2)) ≥ (t474.length : Int)
             · rw [if_pos c28] at H
               have c28b0 : decide ((t474.length : Int) ≤ (wrap64 (2 * x5_2))) = true := decide_eq_true c28
               clear c28
               obtain rfl := Option.some.inj H
               go_wp2
               go_ret
               exact ⟨by first | rfl | (simp [errW_none, errW_some] <;> rfl) | (simp [*, errW_none, errW_some] <;> rfl), by repeat (first | (with_reducible first | exact HB.out | apply below_alloc | apply pw_below_drewN | apply below_drew1) | exact HB.out)⟩
             · rw [if_neg c28] at H
               have c28b0 : decide ((t474.length : Int) ≤ (wrap64 (2 * x5_2))) = false := decide_eq_false c28
               clear c28
               obtain rfl := Option.some.inj H
               go_wp2
               go_ret
               exact ⟨by first | rfl | (simp [errW_none, errW_some] <;> rfl) | (simp [*, errW_none, errW_some] <;> rfl), by repeat (first | (with_reducible first | exact HB.out | apply below_alloc | apply pw_below_drewN | apply below_drew1) | exact HB.out)⟩
           · replace c27 := Bool.eq_false_iff.mpr c27
             subst c27
             have H1 : (some false) = some r := by rw [if_neg (show ¬ (false = true) by decide)] at H; exact H
             clear H
             have H := H1
             clear H1
             obtain rfl := Option.some.inj H
             go_wp2
             go_ret
             exact ⟨by first | rfl | (simp [errW_none, errW_some] <;> rfl) | (simp [*, errW_none, errW_some] <;> rfl), by repeat (first | (with_reducible first | exact HB.out | apply below_alloc | apply pw_below_drewN | apply below_drew1) | exact HB.out)⟩

/-- THE ONE PURE STATEMENT of laws_FnMedianOffset: yours. -/
def laws_FnMedianOffset.Pure : Prop := ∀ (l0 : List Int), l0.length ≤ maxLen → l0.length * 1 ≤ 140737488351232 → (∀ x ∈ l0, (Lit.int .u8 x).wf = true) → ∃ k, laws_FnMedianOffset.f k l0 = some true
theorem laws_FnMedianOffset.walk (P : laws_FnMedianOffset.Pure) (a0 : Option Addr) (len0 cap0 : Nat) (z0 : List Int) (w : World) (w0 : (a0 = none ∧ len0 = 0 ∧ cap0 = 0 ∧ z0 = []) ∨ ∃ x, a0 = some x ∧ len0 ≤ cap0 ∧ cap0 ≤ maxLen ∧ z0.length = cap0 ∧ (∀ i, i < z0.length → w.cell? (x.add i) = some (.int .u8 (z0.getD i 0))) ∧ ∀ n ∈ z0, (Lit.int .u8 n).wf = true) (y0 : len0 * 1 ≤ 140737488351232) :
 Calls Try.prog 7 #[.slice a0 len0 cap0] w fun e w' => e = .returned (.bool true) ∧ Below w.heap.size w w' := by
 obtain ⟨l0, rfl, hr0, hm0, hw0, hc0⟩ := ReadsInt.ofRowC w0
 obtain ⟨k, h⟩ := P l0 hm0 y0 hw0
 refine (laws_FnMedianOffset.calls k _ _ l0 true w (Kd.C_of_reads (d := (0 : Int)) (h1 := fun _ => rfl) hr0) hc0 h).mono ?_
 rintro e w' ⟨rfl, hd⟩
 exact ⟨rfl, hd⟩

end Go.Proofs.Ytkmklifflghojaa.PAll
