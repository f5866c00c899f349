/- Contracts of the Go functions that this seat's laws reach: each call returns what the plain function beside it tells, and leaves what was there; no condition but that result. Written by a program of this session (pmore.py, over the kit's print). -/
import Derived.Test.YtedmfipncmkfcaaPAllx0
import Derived.Test.YtedmfipncmkfcaaPAllx1
import Derived.Test.YtedmfipncmkfcaaPAllx5
import Derived.Test.YtedmfipncmkfcaaPAllx6
import Derived.Test.YtedmfipncmkfcaaPAllx14
namespace Go.Proofs.Ytedmfipncmkfcaa.PAll
open Go.RowKit Go.Proofs.YtedmfipncmkfcaaW.PrintWords Go.Proofs.YtedmfipncmkfcaaW.PrintLast Go.Proofs.YtedmfipncmkfcaaW.PrintMore
attribute [local go_sem] max2_int min2_int max_two min_two max_three min_three max_four min_four   -- for this text's walks alone
set_option linter.unusedVariables false
set_option linter.unusedSimpArgs false

attribute [local go_sem high] eqA25
/-! ### laws_FnStepClockRate: function 12 -/
def laws_FnStepClockRate.j0 : Nat → Int → Bool → Bool → Bool → Int → Int → Int → Int → Int → Int → Int → Int → Int → Option (Bool)
 | 0, _, _, _, _, _, _, _, _, _, _, _, _, _ => none
 | k + 1, x5, x7, x9, x49, x333000, x333001, x333002, x338000, x338001, x338002, x343000, x343001, x343002 => if x49 = true then (if (x338000 == x343000 && (x338001 == x343001 && (x338002 == x343002))) = true then (some (x7 == x9)) else (some false)) else (if x5 < 0 then (if x5 > 0 then (some true) else (some (decide (x338001 ≥ x333001)))) else (if x338001 ≤ x333001 then (if x5 > 0 then (some true) else (some (decide (x338001 ≥ x333001)))) else (some false)))
def laws_FnStepClockRate.f (k : Nat) (l0 : List Int) : Option (Bool) := if (l0.length : Int) > 1048576 then (some true) else ((spec_DrawStepClock.f k l0).bind fun bt327 => ((impl_StepClock.f k bt327.1 bt327.2.1 bt327.2.2.1 bt327.2.2.2.1 bt327.2.2.2.2).bind fun bt333 => ((spec_StepClock.f k bt327.1 bt327.2.1 bt327.2.2.1 bt327.2.2.2.1 bt327.2.2.2.2).bind fun bt338 => (if (!(bt333.1 == bt338.1) || (!(bt333.2.1 == bt338.2.1) || (!(bt333.2.2.1 == bt338.2.2.1)))) = true then (laws_FnStepClockRate.j0 k bt327.2.2.2.2 bt333.2.2.2 bt338.2.2.2 true bt327.1 bt327.2.1 bt327.2.2.1 bt333.1 bt333.2.1 bt333.2.2.1 bt338.1 bt338.2.1 bt338.2.2.1) else (if (bt333.2.2.2 != bt338.2.2.2) = true then (laws_FnStepClockRate.j0 k bt327.2.2.2.2 bt333.2.2.2 bt338.2.2.2 true bt327.1 bt327.2.1 bt327.2.2.1 bt333.1 bt333.2.1 bt333.2.2.1 bt338.1 bt338.2.1 bt338.2.2.1) else (if bt333.2.2.2 = true then ((laws_size.f bt327.2.2.2.2).bind fun t343 => (laws_FnStepClockRate.j0 k bt327.2.2.2.2 bt333.2.2.2 bt338.2.2.2 (decide (t343 > 128000)) bt327.1 bt327.2.1 bt327.2.2.1 bt333.1 bt333.2.1 bt333.2.2.1 bt338.1 bt338.2.1 bt338.2.2.1)) else (laws_FnStepClockRate.j0 k bt327.2.2.2.2 bt333.2.2.2 bt338.2.2.2 true bt327.1 bt327.2.1 bt327.2.2.1 bt333.1 bt333.2.1 bt333.2.2.1 bt338.1 bt338.2.1 bt338.2.2.1)))))))
theorem laws_FnStepClockRate.mono_l : ∀ k, (∀ y0 y1 y2 y3 y4 y5 y6 y7 y8 y9 y10 y11 y12, LeO (laws_FnStepClockRate.j0 k y0 y1 y2 y3 y4 y5 y6 y7 y8 y9 y10 y11 y12) (laws_FnStepClockRate.j0 (k + 1) y0 y1 y2 y3 y4 y5 y6 y7 y8 y9 y10 y11 y12))
 | 0 => fun _ _ _ _ _ _ _ _ _ _ _ _ _ r h => by simp [laws_FnStepClockRate.j0] at h
 | k + 1 => by
  have ih0 := laws_FnStepClockRate.mono_l k
  · intro y0 y1 y2 y3 y4 y5 y6 y7 y8 y9 y10 y11 y12
    unfold laws_FnStepClockRate.j0
    repeat' first
    | (with_reducible exact ih0 _ _ _ _ _ _ _ _ _ _ _ _ _)
    | (with_reducible exact impl_StepClock.mono _ _ _ _ _ _)
    | (with_reducible exact spec_DrawStepClock.mono _ _)
    | (with_reducible exact spec_StepClock.mono _ _ _ _ _ _)
    | (with_reducible exact LeO.refl _)
    | (with_reducible exact LeO.none _)
    | (with_reducible refine LeO.ite ?_ ?_)
    | (with_reducible refine LeO.bind ?_ (fun _ => ?_))
    | exact ih0 _ _ _ _ _ _ _ _ _ _ _ _ _
    | exact impl_StepClock.mono _ _ _ _ _ _
    | exact spec_DrawStepClock.mono _ _
    | exact spec_StepClock.mono _ _ _ _ _ _
    | exact LeO.none _
    | refine LeO.ite ?_ ?_
    | refine LeO.bind ?_ (fun _ => ?_)
theorem laws_FnStepClockRate.mono : ∀ a0 k, LeO (laws_FnStepClockRate.f k a0) (laws_FnStepClockRate.f (k + 1) a0) := by
 intro a0 k
 have ih0 := laws_FnStepClockRate.mono_l k
 unfold laws_FnStepClockRate.f
 repeat' first
  | (with_reducible exact ih0 _ _ _ _ _ _ _ _ _ _ _ _ _)
  | (with_reducible exact impl_StepClock.mono _ _ _ _ _ _)
  | (with_reducible exact spec_DrawStepClock.mono _ _)
  | (with_reducible exact spec_StepClock.mono _ _ _ _ _ _)
  | (with_reducible exact LeO.refl _)
  | (with_reducible exact LeO.none _)
  | (with_reducible refine LeO.ite ?_ ?_)
  | (with_reducible refine LeO.bind ?_ (fun _ => ?_))
  | exact ih0 _ _ _ _ _ _ _ _ _ _ _ _ _
  | exact impl_StepClock.mono _ _ _ _ _ _
  | exact spec_DrawStepClock.mono _ _
  | exact spec_StepClock.mono _ _ _ _ _ _
  | exact LeO.none _
  | refine LeO.ite ?_ ?_
  | refine LeO.bind ?_ (fun _ => ?_)
set_option maxHeartbeats 8000000 in
set_option maxRecDepth 100000 in
theorem laws_FnStepClockRate.calls (k : Nat) (A0 : Option Addr) (c0 : Nat) (l0 : List Int) (r : Bool) (w : World) (hr0 : Kd.C (Kd.int .u8) w A0 l0.length l0) (hc0 : l0.length ≤ c0) (h : laws_FnStepClockRate.f k l0 = some r) :
 Calls Try.prog 12 #[.slice A0 l0.length c0] w fun e w' => e = .returned (.bool r) ∧ Below w.heap.size w w' := by
 have hu25 := Try.underlying25
 have HR0 := Aside0.mk hr0
 have HC0 := Aside0.mk hc0
 clear hr0 hc0
 have HB := Aside0.mk (Below.refl w.heap.size w)
 have H : (if (l0.length : Int) > 1048576 then (some true) else ((spec_DrawStepClock.f k l0).bind fun bt327 => ((impl_StepClock.f k bt327.1 bt327.2.1 bt327.2.2.1 bt327.2.2.2.1 bt327.2.2.2.2).bind fun bt333 => ((spec_StepClock.f k bt327.1 bt327.2.1 bt327.2.2.1 bt327.2.2.2.1 bt327.2.2.2.2).bind fun bt338 => (if (!(bt333.1 == bt338.1) || (!(bt333.2.1 == bt338.2.1) || (!(bt333.2.2.1 == bt338.2.2.1)))) = true then (laws_FnStepClockRate.j0 k bt327.2.2.2.2 bt333.2.2.2 bt338.2.2.2 true bt327.1 bt327.2.1 bt327.2.2.1 bt333.1 bt333.2.1 bt333.2.2.1 bt338.1 bt338.2.1 bt338.2.2.1) else (if (bt333.2.2.2 != bt338.2.2.2) = true then (laws_FnStepClockRate.j0 k bt327.2.2.2.2 bt333.2.2.2 bt338.2.2.2 true bt327.1 bt327.2.1 bt327.2.2.1 bt333.1 bt333.2.1 bt333.2.2.1 bt338.1 bt338.2.1 bt338.2.2.1) else (if bt333.2.2.2 = true then ((laws_size.f bt327.2.2.2.2).bind fun t343 => (laws_FnStepClockRate.j0 k bt327.2.2.2.2 bt333.2.2.2 bt338.2.2.2 (decide (t343 > 128000)) bt327.1 bt327.2.1 bt327.2.2.1 bt333.1 bt333.2.1 bt333.2.2.1 bt338.1 bt338.2.1 bt338.2.2.1)) else (laws_FnStepClockRate.j0 k bt327.2.2.2.2 bt333.2.2.2 bt338.2.2.2 true bt327.1 bt327.2.1 bt327.2.2.1 bt333.1 bt333.2.1 bt333.2.2.1 bt338.1 bt338.2.1 bt338.2.2.1)))))))) = some r := h
 clear h
 by_cases c2 : (l0.length : Int) > 1048576
 · rw [if_pos c2] at H
   have c2b0 : decide (1048576 < (l0.length : Int)) = true := decide_eq_true c2
   have c2b1 : decide (1048576 < l0.length) = true := decide_eq_true (by omega)
   clear c2
   obtain rfl := Option.some.inj H
   go_enter Try.func12, Try.ntmps12
   go_wp2
   go_ret
   exact ⟨by first | rfl | (simp [errW_none, errW_some] <;> rfl) | (simp [*, errW_none, errW_some] <;> rfl), by repeat (first | (with_reducible first | exact HB.out | apply below_alloc | apply pw_below_drewN | apply below_drew1) | exact HB.out)⟩
 · rw [if_neg c2] at H
   have c2b0 : decide (1048576 < (l0.length : Int)) = false := decide_eq_false c2
   have c2b1 : decide (1048576 < l0.length) = false := decide_eq_false (by omega)
   clear c2
   replace H := Option.bind_eq_some_iff.mp H
   obtain ⟨⟨t327, t328, t329, t330, t331⟩, A30, H⟩ := H
   replace H : ((impl_StepClock.f k t327 t328 t329 t330 t331).bind fun bt333 => ((spec_StepClock.f k t327 t328 t329 t330 t331).bind fun bt338 => (if (!(bt333.1 == bt338.1) || (!(bt333.2.1 == bt338.2.1) || (!(bt333.2.2.1 == bt338.2.2.1)))) = true then (laws_FnStepClockRate.j0 k t331 bt333.2.2.2 bt338.2.2.2 true t327 t328 t329 bt333.1 bt333.2.1 bt333.2.2.1 bt338.1 bt338.2.1 bt338.2.2.1) else (if (bt333.2.2.2 != bt338.2.2.2) = true then (laws_FnStepClockRate.j0 k t331 bt333.2.2.2 bt338.2.2.2 true t327 t328 t329 bt333.1 bt333.2.1 bt333.2.2.1 bt338.1 bt338.2.1 bt338.2.2.1) else (if bt333.2.2.2 = true then ((laws_size.f t331).bind fun t343 => (laws_FnStepClockRate.j0 k t331 bt333.2.2.2 bt338.2.2.2 (decide (t343 > 128000)) t327 t328 t329 bt333.1 bt333.2.1 bt333.2.2.1 bt338.1 bt338.2.1 bt338.2.2.1)) else (laws_FnStepClockRate.j0 k t331 bt333.2.2.2 bt338.2.2.2 true t327 t328 t329 bt333.1 bt333.2.1 bt333.2.2.1 bt338.1 bt338.2.1 bt338.2.2.1)))))) = some r := H
   have A3 := Aside0.mk A30
   clear A30
   replace H := Option.bind_eq_some_iff.mp H
   obtain ⟨⟨t333, t334, t335, t336⟩, A40, H⟩ := H
   replace H : ((spec_StepClock.f k t327 t328 t329 t330 t331).bind fun bt338 => (if (!(t333 == bt338.1) || (!(t334 == bt338.2.1) || (!(t335 == bt338.2.2.1)))) = true then (laws_FnStepClockRate.j0 k t331 t336 bt338.2.2.2 true t327 t328 t329 t333 t334 t335 bt338.1 bt338.2.1 bt338.2.2.1) else (if (t336 != bt338.2.2.2) = true then (laws_FnStepClockRate.j0 k t331 t336 bt338.2.2.2 true t327 t328 t329 t333 t334 t335 bt338.1 bt338.2.1 bt338.2.2.1) else (if t336 = true then ((laws_size.f t331).bind fun t343 => (laws_FnStepClockRate.j0 k t331 t336 bt338.2.2.2 (decide (t343 > 128000)) t327 t328 t329 t333 t334 t335 bt338.1 bt338.2.1 bt338.2.2.1)) else (laws_FnStepClockRate.j0 k t331 t336 bt338.2.2.2 true t327 t328 t329 t333 t334 t335 bt338.1 bt338.2.1 bt338.2.2.1))))) = some r := H
   have A4 := Aside0.mk A40
   clear A40
   replace H := Option.bind_eq_some_iff.mp H
   obtain ⟨⟨t338, t339, t340, t341⟩, A50, H⟩ := H
   replace H : (if (!(t333 == t338) || (!(t334 == t339) || (!(t335 == t340)))) = true then (laws_FnStepClockRate.j0 k t331 t336 t341 true t327 t328 t329 t333 t334 t335 t338 t339 t340) else (if (t336 != t341) = true then (laws_FnStepClockRate.j0 k t331 t336 t341 true t327 t328 t329 t333 t334 t335 t338 t339 t340) else (if t336 = true then ((laws_size.f t331).bind fun t343 => (laws_FnStepClockRate.j0 k t331 t336 t341 (decide (t343 > 128000)) t327 t328 t329 t333 t334 t335 t338 t339 t340)) else (laws_FnStepClockRate.j0 k t331 t336 t341 true t327 t328 t329 t333 t334 t335 t338 t339 t340)))) = some r := H
   have A5 := Aside0.mk A50
   clear A50
   have HC6 := Aside0.mk H
   clear H
   go_enter Try.func12, Try.ntmps12
   go_upto_region 6 with (first | ((with_reducible refine gate_callee (f := 24) rfl ?_); refine goesL_ (some 15) rfl rfl Try.func24 (by kernel_rfl) rfl #[.slice A0 l0.length c0] rfl (by (try simp only [List.map_toArray, List.map_cons, List.map_nil]); first | done | rfl | (simp only [List.length_drop, List.length_take]; rfl)) ?_; (with_reducible refine (spec_DrawStepClock.calls k _ _ l0 t327 t328 t329 t330 t331 _ ?side1 ?side2 A3.out).mono ?_); (case side1 => repeat (first | exact HR0.out | (with_reducible refine Kd.C_alloc ?_ _) | (with_reducible refine Kd.C_drewN ?_ _) | (with_reducible refine Kd.C_drew ?_))); (case side2 => exact HC0.out); rintro e w7 ⟨rfl, hb⟩; refine ⟨_, rfl, ?_⟩; have n0_ := Aside0.mk (below_step (by repeat (first | (with_reducible first | exact HB.out | apply below_alloc | apply pw_below_drewN | apply below_drew1) | exact HB.out)) hb); clear HB; have HB := n0_; clear n0_; (try clear hb); (try clear hb2); (try clear hk); (try clear hi)) | ((with_reducible refine gate_dst (N := 3) rfl ?_); refine box_event ?hg (N := 3) ?hd (cs := #[.int .i64 0, .int .i64 0, .int .i64 0]) (t := 25) ?hr ?_; (case hd => rfl); (case hg => rfl); (case hr => first | (go_simp; done) | (go_simp; rfl)); intro gb332 hg w8 hbox hb; have n0_ := Aside0.mk (below_step (by repeat (first | (with_reducible first | exact HB.out | apply below_alloc | apply pw_below_drewN | apply below_drew1) | exact HB.out)) hb); have n1_ := Aside0.mk (hbox); have n2_ := Aside0.mk ((by rw [hg]; exact (below_size (by repeat (first | (with_reducible first | exact HB.out | apply below_alloc | apply pw_below_drewN | apply below_drew1) | exact HB.out))) : w.heap.size ≤ gb332)); have n3_ := Aside0.mk ((by rw [hg]; exact (below_size (by repeat (first | (with_reducible first | exact HB.out | apply below_alloc | apply pw_below_drewN | apply below_drew1) | exact HB.out))) : w.heap.size ≤ gb332)); clear HB; have HB := n0_; have BK332 := n1_; have GW332 := n2_; have GE332 := n3_; clear n0_ n1_ n2_ n3_; clear hb hbox hg; have hcz9_0 : w8.cell? ⟨gb332, 0, none⟩ = some (.int .i64 0) := (blk_cell BK332.out 0).trans rfl; have hcz9_1 : w8.cell? ⟨gb332, 1, none⟩ = some (.int .i64 0) := (blk_cell BK332.out 1).trans rfl; have hcz9_2 : w8.cell? ⟨gb332, 2, none⟩ = some (.int .i64 0) := (blk_cell BK332.out 2).trans rfl; have hfz9_0 := blk_frozen BK332.out 0; have hfz9_1 := blk_frozen BK332.out 1; have hfz9_2 := blk_frozen BK332.out 2) | ((with_reducible refine gate_callee (f := 22) rfl ?_); refine goesL_ (some 23) rfl rfl Try.func22 (by kernel_rfl) rfl #[.agg #[.int .i64 t327, .int .i64 t328, .int .i64 t329], .int .i64 t330, .int .i64 t331] rfl (by (try simp only [List.map_toArray, List.map_cons, List.map_nil]); first | done | rfl | (simp only [List.length_drop, List.length_take]; rfl)) ?_; (with_reducible refine (impl_StepClock.calls k t327 t328 t329 t330 t331 t333 t334 t335 t336 _ A4.out).mono ?_); rintro e w10 ⟨rfl, hb⟩; refine ⟨_, rfl, ?_⟩; have n0_ := Aside0.mk (blk_below (g := gb332) (o := .cells #[.int .i64 t327, .int .i64 t328, .int .i64 t329] 25 (0, 0)) (by (with_reducible repeat (first | apply blk_drewN | apply blk_drew | apply blk_alloc)); refine blk_put (cs := #[.int .i64 t327, .int .i64 t328, .int .i64 0]) ?_ 2 _ rfl; (with_reducible repeat (first | apply blk_drewN | apply blk_drew | apply blk_alloc)); refine blk_put (cs := #[.int .i64 t327, .int .i64 0, .int .i64 0]) ?_ 1 _ rfl; (with_reducible repeat (first | apply blk_drewN | apply blk_drew | apply blk_alloc)); refine blk_put (cs := #[.int .i64 0, .int .i64 0, .int .i64 0]) ?_ 0 _ rfl; (with_reducible repeat (first | apply blk_drewN | apply blk_drew | apply blk_alloc)); exact BK332.out) hb); have n1_ := Aside0.mk (below_step (by repeat (first | (with_reducible first | exact HB.out | apply below_alloc | apply pw_below_drewN | apply below_drew1 | refine below_set ?_ GE332.out) | exact HB.out)) hb); clear BK332; clear HB; have BK332 := n0_; have HB := n1_; clear n0_ n1_; (try clear hb); (try clear hb2); (try clear hk); (try clear hi)) | ((with_reducible refine gate_dst (N := 6) rfl ?_); refine box_event ?hg (N := 6) ?hd (cs := #[.int .i64 0, .int .i64 0, .int .i64 0]) (t := 25) ?hr ?_; (case hd => rfl); (case hg => rfl); (case hr => first | (go_simp; done) | (go_simp; rfl)); intro gb337 hg w11 hbox hb; have n0_ := Aside0.mk (blk_below (g := gb332) (o := .cells #[.int .i64 t327, .int .i64 t328, .int .i64 t329] 25 (0, 0)) (by (with_reducible repeat (first | apply blk_drewN | apply blk_drew | apply blk_alloc)); exact BK332.out) hb); have n1_ := Aside0.mk (below_step (by repeat (first | (with_reducible first | exact HB.out | apply below_alloc | apply pw_below_drewN | apply below_drew1 | refine below_set ?_ GE332.out) | exact HB.out)) hb); have n2_ := Aside0.mk (hbox); have n3_ := Aside0.mk ((by rw [hg]; exact (below_size (by repeat (first | (with_reducible first | exact HB.out | apply below_alloc | apply pw_below_drewN | apply below_drew1 | refine below_set ?_ GE332.out) | exact HB.out))) : w.heap.size ≤ gb337)); have n4_ := Aside0.mk ((by rw [hg]; exact (below_size (by repeat (first | (with_reducible first | exact HB.out | apply below_alloc | apply pw_below_drewN | apply below_drew1 | refine below_set ?_ GE332.out) | exact HB.out))) : w.heap.size ≤ gb337)); have n5_ := Aside0.mk ((by rw [hg]; exact Nat.ne_of_lt (blk_lt (g := gb332) (o := .cells #[.int .i64 t327, .int .i64 t328, .int .i64 t329] 25 (0, 0)) (by (with_reducible repeat (first | apply blk_drewN | apply blk_drew | apply blk_alloc)); exact BK332.out)) : gb332 ≠ gb337)); have n6_ := Aside0.mk ((by rw [hg]; exact Nat.ne_of_gt (blk_lt (g := gb332) (o := .cells #[.int .i64 t327, .int .i64 t328, .int .i64 t329] 25 (0, 0)) (by (with_reducible repeat (first | apply blk_drewN | apply blk_drew | apply blk_alloc)); exact BK332.out)) : gb337 ≠ gb332)); clear BK332; clear HB; have BK332 := n0_; have HB := n1_; have BK337 := n2_; have GW337 := n3_; have GE337 := n4_; have NB332_337 := n5_; have NB337_332 := n6_; clear n0_ n1_ n2_ n3_ n4_ n5_ n6_; clear hb hbox hg; have hnb12 := NB337_332.out; have hnc12 := NB332_337.out; have hcz13_0 : w11.cell? ⟨gb337, 0, none⟩ = some (.int .i64 0) := (blk_cell BK337.out 0).trans rfl; have hcz13_1 : w11.cell? ⟨gb337, 1, none⟩ = some (.int .i64 0) := (blk_cell BK337.out 1).trans rfl; have hcz13_2 : w11.cell? ⟨gb337, 2, none⟩ = some (.int .i64 0) := (blk_cell BK337.out 2).trans rfl; have hfz13_0 := blk_frozen BK337.out 0; have hfz13_1 := blk_frozen BK337.out 1; have hfz13_2 := blk_frozen BK337.out 2; have hcz14_0 : w11.cell? ⟨gb332, 0, none⟩ = some (.int .i64 t327) := (blk_cell BK332.out 0).trans rfl; have hcz14_1 : w11.cell? ⟨gb332, 1, none⟩ = some (.int .i64 t328) := (blk_cell BK332.out 1).trans rfl; have hcz14_2 : w11.cell? ⟨gb332, 2, none⟩ = some (.int .i64 t329) := (blk_cell BK332.out 2).trans rfl; have hfz14_0 := blk_frozen BK332.out 0; have hfz14_1 := blk_frozen BK332.out 1; have hfz14_2 := blk_frozen BK332.out 2) | ((with_reducible refine gate_callee (f := 21) rfl ?_); refine goesL_ (some 30) rfl rfl Try.func21 (by kernel_rfl) rfl #[.agg #[.int .i64 t327, .int .i64 t328, .int .i64 t329], .int .i64 t330, .int .i64 t331] rfl (by (try simp only [List.map_toArray, List.map_cons, List.map_nil]); first | done | rfl | (simp only [List.length_drop, List.length_take]; rfl)) ?_; (with_reducible refine (spec_StepClock.calls k t327 t328 t329 t330 t331 t338 t339 t340 t341 _ A5.out).mono ?_); rintro e w15 ⟨rfl, hb⟩; refine ⟨_, rfl, ?_⟩; have n0_ := Aside0.mk (blk_below (g := gb332) (o := .cells #[.int .i64 t327, .int .i64 t328, .int .i64 t329] 25 (0, 0)) (by (with_reducible repeat (first | apply blk_drewN | apply blk_drew | apply blk_alloc)); refine blk_far ?_ NB332_337.out _; (with_reducible repeat (first | apply blk_drewN | apply blk_drew | apply blk_alloc)); refine blk_far ?_ NB332_337.out _; (with_reducible repeat (first | apply blk_drewN | apply blk_drew | apply blk_alloc)); refine blk_far ?_ NB332_337.out _; (with_reducible repeat (first | apply blk_drewN | apply blk_drew | apply blk_alloc)); exact BK332.out) hb); have n1_ := Aside0.mk (blk_below (g := gb337) (o := .cells #[.int .i64 t333, .int .i64 t334, .int .i64 t335] 25 (0, 0)) (by (with_reducible repeat (first | apply blk_drewN | apply blk_drew | apply blk_alloc)); refine blk_put (cs := #[.int .i64 t333, .int .i64 t334, .int .i64 0]) ?_ 2 _ rfl; (with_reducible repeat (first | apply blk_drewN | apply blk_drew | apply blk_alloc)); refine blk_put (cs := #[.int .i64 t333, .int .i64 0, .int .i64 0]) ?_ 1 _ rfl; (with_reducible repeat (first | apply blk_drewN | apply blk_drew | apply blk_alloc)); refine blk_put (cs := #[.int .i64 0, .int .i64 0, .int .i64 0]) ?_ 0 _ rfl; (with_reducible repeat (first | apply blk_drewN | apply blk_drew | apply blk_alloc)); exact BK337.out) hb); have n2_ := Aside0.mk (below_step (by repeat (first | (with_reducible first | exact HB.out | apply below_alloc | apply pw_below_drewN | apply below_drew1 | refine below_set ?_ GE332.out | refine below_set ?_ GE337.out) | exact HB.out)) hb); clear BK332; clear BK337; clear HB; have BK332 := n0_; have BK337 := n1_; have HB := n2_; clear n0_ n1_ n2_; (try clear hb); (try clear hb2); (try clear hk); (try clear hi)) | ((with_reducible refine gate_dst (N := 8) rfl ?_); refine box_event ?hg (N := 8) ?hd (cs := #[.int .i64 0, .int .i64 0, .int .i64 0]) (t := 25) ?hr ?_; (case hd => rfl); (case hg => rfl); (case hr => first | (go_simp; done) | (go_simp; rfl)); intro gb342 hg w16 hbox hb; have n0_ := Aside0.mk (blk_below (g := gb332) (o := .cells #[.int .i64 t327, .int .i64 t328, .int .i64 t329] 25 (0, 0)) (by (with_reducible repeat (first | apply blk_drewN | apply blk_drew | apply blk_alloc)); exact BK332.out) hb); have n1_ := Aside0.mk (blk_below (g := gb337) (o := .cells #[.int .i64 t333, .int .i64 t334, .int .i64 t335] 25 (0, 0)) (by (with_reducible repeat (first | apply blk_drewN | apply blk_drew | apply blk_alloc)); exact BK337.out) hb); have n2_ := Aside0.mk (below_step (by repeat (first | (with_reducible first | exact HB.out | apply below_alloc | apply pw_below_drewN | apply below_drew1 | refine below_set ?_ GE332.out | refine below_set ?_ GE337.out) | exact HB.out)) hb); have n3_ := Aside0.mk (hbox); have n4_ := Aside0.mk ((by rw [hg]; exact (below_size (by repeat (first | (with_reducible first | exact HB.out | apply below_alloc | apply pw_below_drewN | apply below_drew1 | refine below_set ?_ GE332.out | refine below_set ?_ GE337.out) | exact HB.out))) : w.heap.size ≤ gb342)); have n5_ := Aside0.mk ((by rw [hg]; exact (below_size (by repeat (first | (with_reducible first | exact HB.out | apply below_alloc | apply pw_below_drewN | apply below_drew1 | refine below_set ?_ GE332.out | refine below_set ?_ GE337.out) | exact HB.out))) : w.heap.size ≤ gb342)); have n6_ := Aside0.mk ((by rw [hg]; exact Nat.ne_of_lt (blk_lt (g := gb332) (o := .cells #[.int .i64 t327, .int .i64 t328, .int .i64 t329] 25 (0, 0)) (by (with_reducible repeat (first | apply blk_drewN | apply blk_drew | apply blk_alloc)); exact BK332.out)) : gb332 ≠ gb342)); have n7_ := Aside0.mk ((by rw [hg]; exact Nat.ne_of_gt (blk_lt (g := gb332) (o := .cells #[.int .i64 t327, .int .i64 t328, .int .i64 t329] 25 (0, 0)) (by (with_reducible repeat (first | apply blk_drewN | apply blk_drew | apply blk_alloc)); exact BK332.out)) : gb342 ≠ gb332)); have n8_ := Aside0.mk ((by rw [hg]; exact Nat.ne_of_lt (blk_lt (g := gb337) (o := .cells #[.int .i64 t333, .int .i64 t334, .int .i64 t335] 25 (0, 0)) (by (with_reducible repeat (first | apply blk_drewN | apply blk_drew | apply blk_alloc)); exact BK337.out)) : gb337 ≠ gb342)); have n9_ := Aside0.mk ((by rw [hg]; exact Nat.ne_of_gt (blk_lt (g := gb337) (o := .cells #[.int .i64 t333, .int .i64 t334, .int .i64 t335] 25 (0, 0)) (by (with_reducible repeat (first | apply blk_drewN | apply blk_drew | apply blk_alloc)); exact BK337.out)) : gb342 ≠ gb337)); clear BK332; clear BK337; clear HB; have BK332 := n0_; have BK337 := n1_; have HB := n2_; have BK342 := n3_; have GW342 := n4_; have GE342 := n5_; have NB332_342 := n6_; have NB342_332 := n7_; have NB337_342 := n8_; have NB342_337 := n9_; clear n0_ n1_ n2_ n3_ n4_ n5_ n6_ n7_ n8_ n9_; clear hb hbox hg; have hnb17 := NB342_332.out; have hnc17 := NB332_342.out; have hnb18 := NB342_337.out; have hnc18 := NB337_342.out; have hcz19_0 : w16.cell? ⟨gb342, 0, none⟩ = some (.int .i64 0) := (blk_cell BK342.out 0).trans rfl; have hcz19_1 : w16.cell? ⟨gb342, 1, none⟩ = some (.int .i64 0) := (blk_cell BK342.out 1).trans rfl; have hcz19_2 : w16.cell? ⟨gb342, 2, none⟩ = some (.int .i64 0) := (blk_cell BK342.out 2).trans rfl; have hfz19_0 := blk_frozen BK342.out 0; have hfz19_1 := blk_frozen BK342.out 1; have hfz19_2 := blk_frozen BK342.out 2))
   (try simp only [Act.put, List.setIfInBounds_toArray, List.set_cons_zero, List.set_cons_succ])
   go_cut [49] (fun v49 wc => ∃ (kq : Nat) (x49_5 : Bool), v49 = .bool x49_5 ∧ Aside0 (laws_FnStepClockRate.j0 kq t331 t336 t341 x49_5 t327 t328 t329 t333 t334 t335 t338 t339 t340 = some r) ∧ Aside0 (kq ≤ k) ∧ Aside0 (wc.heap[gb332]? = some (.cells #[.int .i64 t327, .int .i64 t328, .int .i64 t329] 25 (0, 0))) ∧ Aside0 (wc.heap[gb337]? = some (.cells #[.int .i64 t333, .int .i64 t334, .int .i64 t335] 25 (0, 0))) ∧ Aside0 (wc.heap[gb342]? = some (.cells #[.int .i64 t338, .int .i64 t339, .int .i64 t340] 25 (0, 0))) ∧ Aside0 (Below w.heap.size w wc))
   case first =>
    have H := HC6.out
    clear HC6
    by_cases c20 : (!(t333 == t338) || (!(t334 == t339) || (!(t335 == t340)))) = true
    · rw [if_pos c20] at H
      have c20b0 : (!(t333 == t338) || (!(t334 == t339) || (!(t335 == t340)))) = true := c20
      clear c20
      (first | rw [c20b0] | (simp only [i64_w, i32_w]; rw [c20b0]) | skip)
      have H' := Aside0.mk H
      clear H
      have hnb21 := NB337_332.out
      have hnc21 := NB332_337.out
      have hnb22 := NB337_342.out
      have hnc22 := NB342_337.out
      have hcz23_0 : w16.cell? ⟨gb337, 0, none⟩ = some (.int .i64 t333) := (blk_cell BK337.out 0).trans rfl
      have hcz23_1 : w16.cell? ⟨gb337, 1, none⟩ = some (.int .i64 t334) := (blk_cell BK337.out 1).trans rfl
      have hcz23_2 : w16.cell? ⟨gb337, 2, none⟩ = some (.int .i64 t335) := (blk_cell BK337.out 2).trans rfl
      have hfz23_0 := blk_frozen BK337.out 0
      have hfz23_1 := blk_frozen BK337.out 1
      have hfz23_2 := blk_frozen BK337.out 2
      have hnb24 := NB342_332.out
      have hnc24 := NB332_342.out
      have hcz25_0 : w16.cell? ⟨gb342, 0, none⟩ = some (.int .i64 0) := (blk_cell BK342.out 0).trans rfl
      have hcz25_1 : w16.cell? ⟨gb342, 1, none⟩ = some (.int .i64 0) := (blk_cell BK342.out 1).trans rfl
      have hcz25_2 : w16.cell? ⟨gb342, 2, none⟩ = some (.int .i64 0) := (blk_cell BK342.out 2).trans rfl
      have hfz25_0 := blk_frozen BK342.out 0
      have hfz25_1 := blk_frozen BK342.out 1
      have hfz25_2 := blk_frozen BK342.out 2
      go_wp2
      go_meet
      case rel => exact ⟨_, (true), (by first | rfl | (simp; done) | (simp [*]; done)), H', ⟨by first | omega | exact Nat.le_refl _⟩, ⟨by (with_reducible repeat (first | apply blk_drewN | apply blk_drew | apply blk_alloc)); refine blk_far ?_ NB332_342.out _; (with_reducible repeat (first | apply blk_drewN | apply blk_drew | apply blk_alloc)); refine blk_far ?_ NB332_342.out _; (with_reducible repeat (first | apply blk_drewN | apply blk_drew | apply blk_alloc)); refine blk_far ?_ NB332_342.out _; (with_reducible repeat (first | apply blk_drewN | apply blk_drew | apply blk_alloc)); exact BK332.out⟩, ⟨by (with_reducible repeat (first | apply blk_drewN | apply blk_drew | apply blk_alloc)); refine blk_far ?_ NB337_342.out _; (with_reducible repeat (first | apply blk_drewN | apply blk_drew | apply blk_alloc)); refine blk_far ?_ NB337_342.out _; (with_reducible repeat (first | apply blk_drewN | apply blk_drew | apply blk_alloc)); refine blk_far ?_ NB337_342.out _; (with_reducible repeat (first | apply blk_drewN | apply blk_drew | apply blk_alloc)); exact BK337.out⟩, ⟨by (with_reducible repeat (first | apply blk_drewN | apply blk_drew | apply blk_alloc)); refine blk_put (cs := #[.int .i64 t338, .int .i64 t339, .int .i64 0]) ?_ 2 _ rfl; (with_reducible repeat (first | apply blk_drewN | apply blk_drew | apply blk_alloc)); refine blk_put (cs := #[.int .i64 t338, .int .i64 0, .int .i64 0]) ?_ 1 _ rfl; (with_reducible repeat (first | apply blk_drewN | apply blk_drew | apply blk_alloc)); refine blk_put (cs := #[.int .i64 0, .int .i64 0, .int .i64 0]) ?_ 0 _ rfl; (with_reducible repeat (first | apply blk_drewN | apply blk_drew | apply blk_alloc)); exact BK342.out⟩, ⟨by repeat (first | (with_reducible first | exact HB.out | apply below_alloc | apply pw_below_drewN | apply below_drew1 | refine below_set ?_ GE332.out | refine below_set ?_ GE337.out | refine below_set ?_ GE342.out) | exact HB.out)⟩⟩
    · rw [if_neg c20] at H
      have c20b0 : (!(t333 == t338) || (!(t334 == t339) || (!(t335 == t340)))) = false := by simpa using c20
      clear c20
      (first | rw [c20b0] | (simp only [i64_w, i32_w]; rw [c20b0]) | skip)
      by_cases c26 : (t336 != t341) = true
      · rw [if_pos c26] at H
        have c26b0 : (t336 != t341) = true := c26
        (try (have c26b1 : decide (t336 = t341) = false := by simpa using c26))
        (try (have c26b2 : (t336 == t341) = false := by simpa using c26))
        (try (have c26b3 : ¬ (t336 = t341) := by simpa using c26))
        clear c26
        have H' := Aside0.mk H
        clear H
        have hnb27 := NB337_332.out
        have hnc27 := NB332_337.out
        have hnb28 := NB337_342.out
        have hnc28 := NB342_337.out
        have hcz29_0 : w16.cell? ⟨gb337, 0, none⟩ = some (.int .i64 t333) := (blk_cell BK337.out 0).trans rfl
        have hcz29_1 : w16.cell? ⟨gb337, 1, none⟩ = some (.int .i64 t334) := (blk_cell BK337.out 1).trans rfl
        have hcz29_2 : w16.cell? ⟨gb337, 2, none⟩ = some (.int .i64 t335) := (blk_cell BK337.out 2).trans rfl
        have hfz29_0 := blk_frozen BK337.out 0
        have hfz29_1 := blk_frozen BK337.out 1
        have hfz29_2 := blk_frozen BK337.out 2
        have hnb30 := NB342_332.out
        have hnc30 := NB332_342.out
        have hcz31_0 : w16.cell? ⟨gb342, 0, none⟩ = some (.int .i64 0) := (blk_cell BK342.out 0).trans rfl
        have hcz31_1 : w16.cell? ⟨gb342, 1, none⟩ = some (.int .i64 0) := (blk_cell BK342.out 1).trans rfl
        have hcz31_2 : w16.cell? ⟨gb342, 2, none⟩ = some (.int .i64 0) := (blk_cell BK342.out 2).trans rfl
        have hfz31_0 := blk_frozen BK342.out 0
        have hfz31_1 := blk_frozen BK342.out 1
        have hfz31_2 := blk_frozen BK342.out 2
        go_wp2
        go_meet
        case rel => exact ⟨_, (true), (by first | rfl | (simp; done) | (simp [*]; done)), H', ⟨by first | omega | exact Nat.le_refl _⟩, ⟨by (with_reducible repeat (first | apply blk_drewN | apply blk_drew | apply blk_alloc)); refine blk_far ?_ NB332_342.out _; (with_reducible repeat (first | apply blk_drewN | apply blk_drew | apply blk_alloc)); refine blk_far ?_ NB332_342.out _; (with_reducible repeat (first | apply blk_drewN | apply blk_drew | apply blk_alloc)); refine blk_far ?_ NB332_342.out _; (with_reducible repeat (first | apply blk_drewN | apply blk_drew | apply blk_alloc)); exact BK332.out⟩, ⟨by (with_reducible repeat (first | apply blk_drewN | apply blk_drew | apply blk_alloc)); refine blk_far ?_ NB337_342.out _; (with_reducible repeat (first | apply blk_drewN | apply blk_drew | apply blk_alloc)); refine blk_far ?_ NB337_342.out _; (with_reducible repeat (first | apply blk_drewN | apply blk_drew | apply blk_alloc)); refine blk_far ?_ NB337_342.out _; (with_reducible repeat (first | apply blk_drewN | apply blk_drew | apply blk_alloc)); exact BK337.out⟩, ⟨by (with_reducible repeat (first | apply blk_drewN | apply blk_drew | apply blk_alloc)); refine blk_put (cs := #[.int .i64 t338, .int .i64 t339, .int .i64 0]) ?_ 2 _ rfl; (with_reducible repeat (first | apply blk_drewN | apply blk_drew | apply blk_alloc)); refine blk_put (cs := #[.int .i64 t338, .int .i64 0, .int .i64 0]) ?_ 1 _ rfl; (with_reducible repeat (first | apply blk_drewN | apply blk_drew | apply blk_alloc)); refine blk_put (cs := #[.int .i64 0, .int .i64 0, .int .i64 0]) ?_ 0 _ rfl; (with_reducible repeat (first | apply blk_drewN | apply blk_drew | apply blk_alloc)); exact BK342.out⟩, ⟨by repeat (first | (with_reducible first | exact HB.out | apply below_alloc | apply pw_below_drewN | apply below_drew1 | refine below_set ?_ GE332.out | refine below_set ?_ GE337.out | refine below_set ?_ GE342.out) | exact HB.out)⟩⟩
      · rw [if_neg c26] at H
        have c26b0 : (t336 != t341) = false := by simpa using c26
        (try (have c26b1 : decide (t336 = t341) = true := by simpa using c26))
        (try (have c26b2 : (t336 == t341) = true := by simpa using c26))
        clear c26
        by_cases c32 : t336 = true
        · subst c32
          have H1 : ((laws_size.f t331).bind fun t343 => (laws_FnStepClockRate.j0 k t331 true t341 (decide (t343 > 128000)) t327 t328 t329 t333 t334 t335 t338 t339 t340)) = some r := by rw [if_pos rfl] at H; exact H
          clear H
          have H := H1
          clear H1
          replace H := Option.bind_eq_some_iff.mp H
          obtain ⟨t343, A330, H⟩ := H
          replace H : (laws_FnStepClockRate.j0 k t331 true t341 (decide (t343 > 128000)) t327 t328 t329 t333 t334 t335 t338 t339 t340) = some r := H
          have A33 := Aside0.mk A330
          clear A330
          have H' := Aside0.mk H
          clear H
          have hnb34 := NB337_332.out
          have hnc34 := NB332_337.out
          have hnb35 := NB337_342.out
          have hnc35 := NB342_337.out
          have hcz36_0 : w16.cell? ⟨gb337, 0, none⟩ = some (.int .i64 t333) := (blk_cell BK337.out 0).trans rfl
          have hcz36_1 : w16.cell? ⟨gb337, 1, none⟩ = some (.int .i64 t334) := (blk_cell BK337.out 1).trans rfl
          have hcz36_2 : w16.cell? ⟨gb337, 2, none⟩ = some (.int .i64 t335) := (blk_cell BK337.out 2).trans rfl
          have hfz36_0 := blk_frozen BK337.out 0
          have hfz36_1 := blk_frozen BK337.out 1
          have hfz36_2 := blk_frozen BK337.out 2
          have hnb37 := NB342_332.out
          have hnc37 := NB332_342.out
          have hcz38_0 : w16.cell? ⟨gb342, 0, none⟩ = some (.int .i64 0) := (blk_cell BK342.out 0).trans rfl
          have hcz38_1 : w16.cell? ⟨gb342, 1, none⟩ = some (.int .i64 0) := (blk_cell BK342.out 1).trans rfl
          have hcz38_2 : w16.cell? ⟨gb342, 2, none⟩ = some (.int .i64 0) := (blk_cell BK342.out 2).trans rfl
          have hfz38_0 := blk_frozen BK342.out 0
          have hfz38_1 := blk_frozen BK342.out 1
          have hfz38_2 := blk_frozen BK342.out 2
          go_wp2_with (first | (go_at_call 25; (with_reducible refine (laws_size.calls t331 t343 _ A33.out).mono ?_); rintro e w39 ⟨rfl, hb⟩; have n0_ := Aside0.mk (blk_below (g := gb332) (o := .cells #[.int .i64 t327, .int .i64 t328, .int .i64 t329] 25 (0, 0)) (by (with_reducible repeat (first | apply blk_drewN | apply blk_drew | apply blk_alloc)); refine blk_far ?_ NB332_342.out _; (with_reducible repeat (first | apply blk_drewN | apply blk_drew | apply blk_alloc)); refine blk_far ?_ NB332_342.out _; (with_reducible repeat (first | apply blk_drewN | apply blk_drew | apply blk_alloc)); refine blk_far ?_ NB332_342.out _; (with_reducible repeat (first | apply blk_drewN | apply blk_drew | apply blk_alloc)); exact BK332.out) hb); have n1_ := Aside0.mk (blk_below (g := gb337) (o := .cells #[.int .i64 t333, .int .i64 t334, .int .i64 t335] 25 (0, 0)) (by (with_reducible repeat (first | apply blk_drewN | apply blk_drew | apply blk_alloc)); refine blk_far ?_ NB337_342.out _; (with_reducible repeat (first | apply blk_drewN | apply blk_drew | apply blk_alloc)); refine blk_far ?_ NB337_342.out _; (with_reducible repeat (first | apply blk_drewN | apply blk_drew | apply blk_alloc)); refine blk_far ?_ NB337_342.out _; (with_reducible repeat (first | apply blk_drewN | apply blk_drew | apply blk_alloc)); exact BK337.out) hb); have n2_ := Aside0.mk (blk_below (g := gb342) (o := .cells #[.int .i64 t338, .int .i64 t339, .int .i64 t340] 25 (0, 0)) (by (with_reducible repeat (first | apply blk_drewN | apply blk_drew | apply blk_alloc)); refine blk_put (cs := #[.int .i64 t338, .int .i64 t339, .int .i64 0]) ?_ 2 _ rfl; (with_reducible repeat (first | apply blk_drewN | apply blk_drew | apply blk_alloc)); refine blk_put (cs := #[.int .i64 t338, .int .i64 0, .int .i64 0]) ?_ 1 _ rfl; (with_reducible repeat (first | apply blk_drewN | apply blk_drew | apply blk_alloc)); refine blk_put (cs := #[.int .i64 0, .int .i64 0, .int .i64 0]) ?_ 0 _ rfl; (with_reducible repeat (first | apply blk_drewN | apply blk_drew | apply blk_alloc)); exact BK342.out) hb); have n3_ := Aside0.mk (below_step (by repeat (first | (with_reducible first | exact HB.out | apply below_alloc | apply pw_below_drewN | apply below_drew1 | refine below_set ?_ GE332.out | refine below_set ?_ GE337.out | refine below_set ?_ GE342.out) | exact HB.out)) hb); clear BK332; clear BK337; clear BK342; clear HB; have BK332 := n0_; have BK337 := n1_; have BK342 := n2_; have HB := n3_; clear n0_ n1_ n2_ n3_; (try clear hb); (try clear hb2); (try clear hk); (try clear hi)))
          go_meet
          case rel => exact ⟨_, (decide (t343 > 128000)), (by first | rfl | (simp; done) | (simp [*]; done)), H', ⟨by first | omega | exact Nat.le_refl _⟩, ⟨by (with_reducible repeat (first | apply blk_drewN | apply blk_drew | apply blk_alloc)); exact BK332.out⟩, ⟨by (with_reducible repeat (first | apply blk_drewN | apply blk_drew | apply blk_alloc)); exact BK337.out⟩, ⟨by (with_reducible repeat (first | apply blk_drewN | apply blk_drew | apply blk_alloc)); exact BK342.out⟩, ⟨by repeat (first | (with_reducible first | exact HB.out | apply below_alloc | apply pw_below_drewN | apply below_drew1 | refine below_set ?_ GE332.out | refine below_set ?_ GE337.out | refine below_set ?_ GE342.out) | exact HB.out)⟩⟩
        · replace c32 := Bool.eq_false_iff.mpr c32
          subst c32
          have H1 : (laws_FnStepClockRate.j0 k t331 false t341 true t327 t328 t329 t333 t334 t335 t338 t339 t340) = some r := by rw [if_neg (show ¬ (false = true) by decide)] at H; exact H
          clear H
          have H := H1
          clear H1
          have H' := Aside0.mk H
          clear H
          have hnb40 := NB337_332.out
          have hnc40 := NB332_337.out
          have hnb41 := NB337_342.out
          have hnc41 := NB342_337.out
          have hcz42_0 : w16.cell? ⟨gb337, 0, none⟩ = some (.int .i64 t333) := (blk_cell BK337.out 0).trans rfl
          have hcz42_1 : w16.cell? ⟨gb337, 1, none⟩ = some (.int .i64 t334) := (blk_cell BK337.out 1).trans rfl
          have hcz42_2 : w16.cell? ⟨gb337, 2, none⟩ = some (.int .i64 t335) := (blk_cell BK337.out 2).trans rfl
          have hfz42_0 := blk_frozen BK337.out 0
          have hfz42_1 := blk_frozen BK337.out 1
          have hfz42_2 := blk_frozen BK337.out 2
          have hnb43 := NB342_332.out
          have hnc43 := NB332_342.out
          have hcz44_0 : w16.cell? ⟨gb342, 0, none⟩ = some (.int .i64 0) := (blk_cell BK342.out 0).trans rfl
          have hcz44_1 : w16.cell? ⟨gb342, 1, none⟩ = some (.int .i64 0) := (blk_cell BK342.out 1).trans rfl
          have hcz44_2 : w16.cell? ⟨gb342, 2, none⟩ = some (.int .i64 0) := (blk_cell BK342.out 2).trans rfl
          have hfz44_0 := blk_frozen BK342.out 0
          have hfz44_1 := blk_frozen BK342.out 1
          have hfz44_2 := blk_frozen BK342.out 2
          go_wp2
          go_meet
          case rel => exact ⟨_, (true), (by first | rfl | (simp; done) | (simp [*]; done)), H', ⟨by first | omega | exact Nat.le_refl _⟩, ⟨by (with_reducible repeat (first | apply blk_drewN | apply blk_drew | apply blk_alloc)); refine blk_far ?_ NB332_342.out _; (with_reducible repeat (first | apply blk_drewN | apply blk_drew | apply blk_alloc)); refine blk_far ?_ NB332_342.out _; (with_reducible repeat (first | apply blk_drewN | apply blk_drew | apply blk_alloc)); refine blk_far ?_ NB332_342.out _; (with_reducible repeat (first | apply blk_drewN | apply blk_drew | apply blk_alloc)); exact BK332.out⟩, ⟨by (with_reducible repeat (first | apply blk_drewN | apply blk_drew | apply blk_alloc)); refine blk_far ?_ NB337_342.out _; (with_reducible repeat (first | apply blk_drewN | apply blk_drew | apply blk_alloc)); refine blk_far ?_ NB337_342.out _; (with_reducible repeat (first | apply blk_drewN | apply blk_drew | apply blk_alloc)); refine blk_far ?_ NB337_342.out _; (with_reducible repeat (first | apply blk_drewN | apply blk_drew | apply blk_alloc)); exact BK337.out⟩, ⟨by (with_reducible repeat (first | apply blk_drewN | apply blk_drew | apply blk_alloc)); refine blk_put (cs := #[.int .i64 t338, .int .i64 t339, .int .i64 0]) ?_ 2 _ rfl; (with_reducible repeat (first | apply blk_drewN | apply blk_drew | apply blk_alloc)); refine blk_put (cs := #[.int .i64 t338, .int .i64 0, .int .i64 0]) ?_ 1 _ rfl; (with_reducible repeat (first | apply blk_drewN | apply blk_drew | apply blk_alloc)); refine blk_put (cs := #[.int .i64 0, .int .i64 0, .int .i64 0]) ?_ 0 _ rfl; (with_reducible repeat (first | apply blk_drewN | apply blk_drew | apply blk_alloc)); exact BK342.out⟩, ⟨by repeat (first | (with_reducible first | exact HB.out | apply below_alloc | apply pw_below_drewN | apply below_drew1 | refine below_set ?_ GE332.out | refine below_set ?_ GE337.out | refine below_set ?_ GE342.out) | exact HB.out)⟩⟩
   case rest =>
    clear HC6
    try clear c1
    try clear c2
    try clear c2b0
    try clear c2b1
    try clear p2
    try clear c3
    try clear c4
    try clear c12
    try clear c17
    try clear c18
    try clear c20
    try clear c20b0
    try clear c21
    try clear c22
    try clear c24
    try clear c26
    try clear c26b0
    try clear c26b1
    try clear c26b2
    try clear c27
    try clear c28
    try clear c30
    try clear c32
    try clear c34
    try clear c35
    try clear c37
    try clear c40
    try clear c41
    try clear c43
    try clear hcz13_0
    try clear hcz13_1
    try clear hcz13_2
    try clear hcz14_0
    try clear hcz14_1
    try clear hcz14_2
    try clear hcz19_0
    try clear hcz19_1
    try clear hcz19_2
    try clear hcz23_0
    try clear hcz23_1
    try clear hcz23_2
    try clear hcz25_0
    try clear hcz25_1
    try clear hcz25_2
    try clear hcz29_0
    try clear hcz29_1
    try clear hcz29_2
    try clear hcz31_0
    try clear hcz31_1
    try clear hcz31_2
    try clear hcz36_0
    try clear hcz36_1
    try clear hcz36_2
    try clear hcz38_0
    try clear hcz38_1
    try clear hcz38_2
    try clear hcz42_0
    try clear hcz42_1
    try clear hcz42_2
    try clear hcz44_0
    try clear hcz44_1
    try clear hcz44_2
    try clear hcz9_0
    try clear hcz9_1
    try clear hcz9_2
    try clear hfz13_0
    try clear hfz13_1
    try clear hfz13_2
    try clear hfz14_0
    try clear hfz14_1
    try clear hfz14_2
    try clear hfz19_0
    try clear hfz19_1
    try clear hfz19_2
    try clear hfz23_0
    try clear hfz23_1
    try clear hfz23_2
    try clear hfz25_0
    try clear hfz25_1
    try clear hfz25_2
    try clear hfz29_0
    try clear hfz29_1
    try clear hfz29_2
    try clear hfz31_0
    try clear hfz31_1
    try clear hfz31_2
    try clear hfz36_0
    try clear hfz36_1
    try clear hfz36_2
    try clear hfz38_0
    try clear hfz38_1
    try clear hfz38_2
    try clear hfz42_0
    try clear hfz42_1
    try clear hfz42_2
    try clear hfz44_0
    try clear hfz44_1
    try clear hfz44_2
    try clear hfz9_0
    try clear hfz9_1
    try clear hfz9_2
    obtain ⟨kq, x49_5, rfl, HA, HJ5, BK332, BK337, BK342, HB⟩ := hcut
    cases kq with
    | zero => exact absurd HA.out (by simp [laws_FnStepClockRate.j0])
    | succ kj5 =>
     have H := HA.out
     clear HA
     simp only [laws_FnStepClockRate.j0] at H
     by_cases c45 : x49_5 = true
     · subst c45
       have H1 : (if (t333 == t338 && (t334 == t339 && (t335 == t340))) = true then (some (t336 == t341)) else (some false)) = some r := by rw [if_pos rfl] at H; exact H
       clear H
       have H := H1
       clear H1
       by_cases c46 : (t333 == t338 && (t334 == t339 && (t335 == t340))) = true
       · rw [if_pos c46] at H
         have c46b0 : (t333 == t338 && (t334 == t339 && (t335 == t340))) = true := c46
         (try (have c46b1 : decide (t333 = t338 && (t334 == t339 && (t335 == t340))) = true := by simpa using c46))
         (try (have c46b2 : (t333 == t338 && (t334 == t339 && (t335 == t340))) = true := by simpa using c46))
         clear c46
         obtain rfl := Option.some.inj H
         have hnb47 := NB337_332.out
         have hnc47 := NB332_337.out
         have hnb48 := NB337_342.out
         have hnc48 := NB342_337.out
         have hcz49_0 : wc.cell? ⟨gb337, 0, none⟩ = some (.int .i64 t333) := (blk_cell BK337.out 0).trans rfl
         have hcz49_1 : wc.cell? ⟨gb337, 1, none⟩ = some (.int .i64 t334) := (blk_cell BK337.out 1).trans rfl
         have hcz49_2 : wc.cell? ⟨gb337, 2, none⟩ = some (.int .i64 t335) := (blk_cell BK337.out 2).trans rfl
         have hfz49_0 := blk_frozen BK337.out 0
         have hfz49_1 := blk_frozen BK337.out 1
         have hfz49_2 := blk_frozen BK337.out 2
         have hnb50 := NB342_332.out
         have hnc50 := NB332_342.out
         have hcz51_0 : wc.cell? ⟨gb342, 0, none⟩ = some (.int .i64 t338) := (blk_cell BK342.out 0).trans rfl
         have hcz51_1 : wc.cell? ⟨gb342, 1, none⟩ = some (.int .i64 t339) := (blk_cell BK342.out 1).trans rfl
         have hcz51_2 : wc.cell? ⟨gb342, 2, none⟩ = some (.int .i64 t340) := (blk_cell BK342.out 2).trans rfl
         have hfz51_0 := blk_frozen BK342.out 0
         have hfz51_1 := blk_frozen BK342.out 1
         have hfz51_2 := blk_frozen BK342.out 2
         go_wp2
         go_ret
         exact ⟨by first | rfl | (simp [errW_none, errW_some] <;> rfl) | (simp [*, errW_none, errW_some] <;> rfl), by repeat (first | (with_reducible first | exact HB.out | apply below_alloc | apply pw_below_drewN | apply below_drew1 | refine below_set ?_ GE332.out | refine below_set ?_ GE337.out | refine below_set ?_ GE342.out) | exact HB.out)⟩
       · rw [if_neg c46] at H
         have c46b0 : (t333 == t338 && (t334 == t339 && (t335 == t340))) = false := by simpa using c46
         (try (have c46b1 : decide (t333 = t338 && (t334 == t339 && (t335 == t340))) = false := by simpa using c46))
         (try (have c46b2 : (t333 == t338 && (t334 == t339 && (t335 == t340))) = false := by simpa using c46))
         (try (have c46b3 : ¬ (t333 = t338 && (t334 == t339 && (t335 == t340))) := by simpa using c46))
         clear c46
         obtain rfl := Option.some.inj H
         have hnb52 := NB337_332.out
         have hnc52 := NB332_337.out
         have hnb53 := NB337_342.out
         have hnc53 := NB342_337.out
         have hcz54_0 : wc.cell? ⟨gb337, 0, none⟩ = some (.int .i64 t333) := (blk_cell BK337.out 0).trans rfl
         have hcz54_1 : wc.cell? ⟨gb337, 1, none⟩ = some (.int .i64 t334) := (blk_cell BK337.out 1).trans rfl
         have hcz54_2 : wc.cell? ⟨gb337, 2, none⟩ = some (.int .i64 t335) := (blk_cell BK337.out 2).trans rfl
         have hfz54_0 := blk_frozen BK337.out 0
         have hfz54_1 := blk_frozen BK337.out 1
         have hfz54_2 := blk_frozen BK337.out 2
         have hnb55 := NB342_332.out
         have hnc55 := NB332_342.out
         have hcz56_0 : wc.cell? ⟨gb342, 0, none⟩ = some (.int .i64 t338) := (blk_cell BK342.out 0).trans rfl
         have hcz56_1 : wc.cell? ⟨gb342, 1, none⟩ = some (.int .i64 t339) := (blk_cell BK342.out 1).trans rfl
         have hcz56_2 : wc.cell? ⟨gb342, 2, none⟩ = some (.int .i64 t340) := (blk_cell BK342.out 2).trans rfl
         have hfz56_0 := blk_frozen BK342.out 0
         have hfz56_1 := blk_frozen BK342.out 1
         have hfz56_2 := blk_frozen BK342.out 2
         go_wp2
         go_ret
         exact ⟨by first | rfl | (simp [errW_none, errW_some] <;> rfl) | (simp [*, errW_none, errW_some] <;> rfl), by repeat (first | (with_reducible first | exact HB.out | apply below_alloc | apply pw_below_drewN | apply below_drew1 | refine below_set ?_ GE332.out | refine below_set ?_ GE337.out | refine below_set ?_ GE342.out) | exact HB.out)⟩
     · replace c45 := Bool.eq_false_iff.mpr c45
       subst c45
       have H1 : (if t331 < 0 then (if t331 > 0 then (some true) else (some (decide (t334 ≥ t328)))) else (if t334 ≤ t328 then (if t331 > 0 then (some true) else (some (decide (t334 ≥ t328)))) else (some false))) = some r := by rw [if_neg (show ¬ (false = true) by decide)] at H; exact H
       clear H
       have H := H1
       clear H1
       by_cases c57 : t331 < 0
       · rw [if_pos c57] at H
         have c57b0 : decide (t331 < 0) = true := decide_eq_true c57
         clear c57
         by_cases c58 : t331 > 0
         · rw [if_pos c58] at H
           have c58b0 : decide (0 < t331) = true := decide_eq_true c58
           clear c58
           obtain rfl := Option.some.inj H
           go_wp2
           go_ret
           exact ⟨by first | rfl | (simp [errW_none, errW_some] <;> rfl) | (simp [*, errW_none, errW_some] <;> rfl), by repeat (first | (with_reducible first | exact HB.out | apply below_alloc | apply pw_below_drewN | apply below_drew1 | refine below_set ?_ GE332.out | refine below_set ?_ GE337.out | refine below_set ?_ GE342.out) | exact HB.out)⟩
         · rw [if_neg c58] at H
           have c58b0 : decide (0 < t331) = false := decide_eq_false c58
           clear c58
           obtain rfl := Option.some.inj H
           have hnb59 := NB337_332.out
           have hnc59 := NB332_337.out
           have hnb60 := NB337_342.out
           have hnc60 := NB342_337.out
           have hcz61_0 : wc.cell? ⟨gb337, 0, none⟩ = some (.int .i64 t333) := (blk_cell BK337.out 0).trans rfl
           have hcz61_1 : wc.cell? ⟨gb337, 1, none⟩ = some (.int .i64 t334) := (blk_cell BK337.out 1).trans rfl
           have hcz61_2 : wc.cell? ⟨gb337, 2, none⟩ = some (.int .i64 t335) := (blk_cell BK337.out 2).trans rfl
           have hfz61_0 := blk_frozen BK337.out 0
           have hfz61_1 := blk_frozen BK337.out 1
           have hfz61_2 := blk_frozen BK337.out 2
           have hnb62 := NB332_342.out
           have hnc62 := NB342_332.out
           have hcz63_0 : wc.cell? ⟨gb332, 0, none⟩ = some (.int .i64 t327) := (blk_cell BK332.out 0).trans rfl
           have hcz63_1 : wc.cell? ⟨gb332, 1, none⟩ = some (.int .i64 t328) := (blk_cell BK332.out 1).trans rfl
           have hcz63_2 : wc.cell? ⟨gb332, 2, none⟩ = some (.int .i64 t329) := (blk_cell BK332.out 2).trans rfl
           have hfz63_0 := blk_frozen BK332.out 0
           have hfz63_1 := blk_frozen BK332.out 1
           have hfz63_2 := blk_frozen BK332.out 2
           go_wp2
           go_ret
           exact ⟨by first | rfl | (simp [errW_none, errW_some] <;> rfl) | (simp [*, errW_none, errW_some] <;> rfl), by repeat (first | (with_reducible first | exact HB.out | apply below_alloc | apply pw_below_drewN | apply below_drew1 | refine below_set ?_ GE332.out | refine below_set ?_ GE337.out | refine below_set ?_ GE342.out) | exact HB.out)⟩
       · rw [if_neg c57] at H
         have c57b0 : decide (t331 < 0) = false := decide_eq_false c57
         clear c57
         by_cases c64 : t334 ≤ t328
         · rw [if_pos c64] at H
           have c64b0 : decide (t334 ≤ t328) = true := decide_eq_true c64
           clear c64
           by_cases c65 : t331 > 0
           · rw [if_pos c65] at H
             have c65b0 : decide (0 < t331) = true := decide_eq_true c65
             clear c65
             obtain rfl := Option.some.inj H
             have hnb66 := NB337_332.out
             have hnc66 := NB332_337.out
             have hnb67 := NB337_342.out
             have hnc67 := NB342_337.out
             have hcz68_0 : wc.cell? ⟨gb337, 0, none⟩ = some (.int .i64 t333) := (blk_cell BK337.out 0).trans rfl
             have hcz68_1 : wc.cell? ⟨gb337, 1, none⟩ = some (.int .i64 t334) := (blk_cell BK337.out 1).trans rfl
             have hcz68_2 : wc.cell? ⟨gb337, 2, none⟩ = some (.int .i64 t335) := (blk_cell BK337.out 2).trans rfl
             have hfz68_0 := blk_frozen BK337.out 0
             have hfz68_1 := blk_frozen BK337.out 1
             have hfz68_2 := blk_frozen BK337.out 2
             have hnb69 := NB332_342.out
             have hnc69 := NB342_332.out
             have hcz70_0 : wc.cell? ⟨gb332, 0, none⟩ = some (.int .i64 t327) := (blk_cell BK332.out 0).trans rfl
             have hcz70_1 : wc.cell? ⟨gb332, 1, none⟩ = some (.int .i64 t328) := (blk_cell BK332.out 1).trans rfl
             have hcz70_2 : wc.cell? ⟨gb332, 2, none⟩ = some (.int .i64 t329) := (blk_cell BK332.out 2).trans rfl
             have hfz70_0 := blk_frozen BK332.out 0
             have hfz70_1 := blk_frozen BK332.out 1
             have hfz70_2 := blk_frozen BK332.out 2
             go_wp2
             go_ret
             exact ⟨by first | rfl | (simp [errW_none, errW_some] <;> rfl) | (simp [*, errW_none, errW_some] <;> rfl), by repeat (first | (with_reducible first | exact HB.out | apply below_alloc | apply pw_below_drewN | apply below_drew1 | refine below_set ?_ GE332.out | refine below_set ?_ GE337.out | refine below_set ?_ GE342.out) | exact HB.out)⟩
           · rw [if_neg c65] at H
             have c65b0 : decide (0 < t331) = false := decide_eq_false c65
             clear c65
             obtain rfl := Option.some.inj H
             have hnb71 := NB337_332.out
             have hnc71 := NB332_337.out
             have hnb72 := NB337_342.out
             have hnc72 := NB342_337.out
             have hcz73_0 : wc.cell? ⟨gb337, 0, none⟩ = some (.int .i64 t333) := (blk_cell BK337.out 0).trans rfl
             have hcz73_1 : wc.cell? ⟨gb337, 1, none⟩ = some (.int .i64 t334) := (blk_cell BK337.out 1).trans rfl
             have hcz73_2 : wc.cell? ⟨gb337, 2, none⟩ = some (.int .i64 t335) := (blk_cell BK337.out 2).trans rfl
             have hfz73_0 := blk_frozen BK337.out 0
             have hfz73_1 := blk_frozen BK337.out 1
             have hfz73_2 := blk_frozen BK337.out 2
             have hnb74 := NB332_342.out
             have hnc74 := NB342_332.out
             have hcz75_0 : wc.cell? ⟨gb332, 0, none⟩ = some (.int .i64 t327) := (blk_cell BK332.out 0).trans rfl
             have hcz75_1 : wc.cell? ⟨gb332, 1, none⟩ = some (.int .i64 t328) := (blk_cell BK332.out 1).trans rfl
             have hcz75_2 : wc.cell? ⟨gb332, 2, none⟩ = some (.int .i64 t329) := (blk_cell BK332.out 2).trans rfl
             have hfz75_0 := blk_frozen BK332.out 0
             have hfz75_1 := blk_frozen BK332.out 1
             have hfz75_2 := blk_frozen BK332.out 2
             go_wp2
             go_ret
             exact ⟨by first | rfl | (simp [errW_none, errW_some] <;> rfl) | (simp [*, errW_none, errW_some] <;> rfl), by repeat (first | (with_reducible first | exact HB.out | apply below_alloc | apply pw_below_drewN | apply below_drew1 | refine below_set ?_ GE332.out | refine below_set ?_ GE337.out | refine below_set ?_ GE342.out) | exact HB.out)⟩
         · rw [if_neg c64] at H
           have c64b0 : decide (t334 ≤ t328) = false := decide_eq_false c64
           clear c64
           obtain rfl := Option.some.inj H
           have hnb76 := NB337_332.out
           have hnc76 := NB332_337.out
           have hnb77 := NB337_342.out
           have hnc77 := NB342_337.out
           have hcz78_0 : wc.cell? ⟨gb337, 0, none⟩ = some (.int .i64 t333) := (blk_cell BK337.out 0).trans rfl
           have hcz78_1 : wc.cell? ⟨gb337, 1, none⟩ = some (.int .i64 t334) := (blk_cell BK337.out 1).trans rfl
           have hcz78_2 : wc.cell? ⟨gb337, 2, none⟩ = some (.int .i64 t335) := (blk_cell BK337.out 2).trans rfl
           have hfz78_0 := blk_frozen BK337.out 0
           have hfz78_1 := blk_frozen BK337.out 1
           have hfz78_2 := blk_frozen BK337.out 2
           have hnb79 := NB332_342.out
           have hnc79 := NB342_332.out
           have hcz80_0 : wc.cell? ⟨gb332, 0, none⟩ = some (.int .i64 t327) := (blk_cell BK332.out 0).trans rfl
           have hcz80_1 : wc.cell? ⟨gb332, 1, none⟩ = some (.int .i64 t328) := (blk_cell BK332.out 1).trans rfl
           have hcz80_2 : wc.cell? ⟨gb332, 2, none⟩ = some (.int .i64 t329) := (blk_cell BK332.out 2).trans rfl
           have hfz80_0 := blk_frozen BK332.out 0
           have hfz80_1 := blk_frozen BK332.out 1
           have hfz80_2 := blk_frozen BK332.out 2
           go_wp2
           go_ret
           exact ⟨by first | rfl | (simp [errW_none, errW_some] <;> rfl) | (simp [*, errW_none, errW_some] <;> rfl), by repeat (first | (with_reducible first | exact HB.out | apply below_alloc | apply pw_below_drewN | apply below_drew1 | refine below_set ?_ GE332.out | refine below_set ?_ GE337.out | refine below_set ?_ GE342.out) | exact HB.out)⟩

/-- THE ONE PURE STATEMENT of laws_FnStepClockRate: yours. -/
def laws_FnStepClockRate.Pure : Prop := ∀ (l0 : List Int), l0.length ≤ maxLen → l0.length * 1 ≤ 140737488351232 → (∀ x ∈ l0, (Lit.int .u8 x).wf = true) → ∃ k, laws_FnStepClockRate.f k l0 = some true
theorem laws_FnStepClockRate.walk (P : laws_FnStepClockRate.Pure) (a0 : Option Addr) (len0 cap0 : Nat) (z0 : List Int) (w : World) (w0 : (a0 = none ∧ len0 = 0 ∧ cap0 = 0 ∧ z0 = []) ∨ ∃ x, a0 = some x ∧ len0 ≤ cap0 ∧ cap0 ≤ maxLen ∧ z0.length = cap0 ∧ (∀ i, i < z0.length → w.cell? (x.add i) = some (.int .u8 (z0.getD i 0))) ∧ ∀ n ∈ z0, (Lit.int .u8 n).wf = true) (y0 : len0 * 1 ≤ 140737488351232) :
 Calls Try.prog 12 #[.slice a0 len0 cap0] w fun e w' => e = .returned (.bool true) ∧ Below w.heap.size w w' := by
 obtain ⟨l0, rfl, hr0, hm0, hw0, hc0⟩ := ReadsInt.ofRowC w0
 obtain ⟨k, h⟩ := P l0 hm0 y0 hw0
 refine (laws_FnStepClockRate.calls k _ _ l0 true w (Kd.C_of_reads (d := (0 : Int)) (h1 := fun _ => rfl) hr0) hc0 h).mono ?_
 rintro e w' ⟨rfl, hd⟩
 exact ⟨rfl, hd⟩

end Go.Proofs.Ytedmfipncmkfcaa.PAll
