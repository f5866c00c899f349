-- Written by a program of this session (pmore.py, over the kit's print)
import Derived.Test.YtedmfipncmkfcaaPAllx0
import Derived.Test.YtedmfipncmkfcaaPAllx1
import Derived.Test.YtedmfipncmkfcaaPAllx3
import Derived.Test.YtedmfipncmkfcaaPAllx5
import Derived.Test.YtedmfipncmkfcaaPAllx6
import Derived.Test.YtedmfipncmkfcaaPAllx14
namespace Go.Proofs.Ytedmfipncmkfcaa.PAll
open Go.RowKit Go.Proofs.YtedmfipncmkfcaaW.PrintWords Go.Proofs.YtedmfipncmkfcaaW.PrintLast Go.Proofs.YtedmfipncmkfcaaW.PrintMore
attribute [local go_sem] max2_int min2_int max_two min_two max_three min_three max_four min_four   -- for this text's walks alone
set_option linter.unusedVariables false
set_option linter.unusedSimpArgs false

attribute [local go_sem high] eqA25
/-! ### laws_FnStepClockRepeat: function 13 -/
def laws_FnStepClockRepeat.j0 : Nat → Int → Bool → Bool → Bool → Int → Int → Int → Int → Int → Int → Int → Int → Int → Option (Bool)
  | 0, _, _, _, _, _, _, _, _, _, _, _, _, _ => none
  | k + 1, x4, x7, x9, x48, x350000, x350001, x350002, x355000, x355001, x355002, x360000, x360001, x360002 => if x48 = true then (if (x355000 == x360000 && (x355001 == x360001 && (x355002 == x360002))) = true then (some (x7 == x9)) else (some false)) else ((impl_OffsetAt.f x350000 x350001 x350002 x4).bind fun bt360 => ((laws_size.f bt360.1).bind fun t362 => (if t362 > 1000000 then (some bt360.2) else ((impl_StepClock.f k x350000 x350001 x350002 x4 bt360.1).bind fun bt363 => (if bt360.2 = true then (if bt363.2.2.2 = true then ((laws_size.f bt363.1).bind fun t368 => ((laws_size.f bt360.1).bind fun t369 => (some (decide (t368 ≤ t369))))) else (some false)) else (some false))))))
def laws_FnStepClockRepeat.f (k : Nat) (l0 : List Int) : Option (Bool) := if (l0.length : Int) > 1048576 then (some true) else ((spec_DrawStepClock.f k l0).bind fun bt344 => ((impl_StepClock.f k bt344.1 bt344.2.1 bt344.2.2.1 bt344.2.2.2.1 bt344.2.2.2.2).bind fun bt350 => ((spec_StepClock.f k bt344.1 bt344.2.1 bt344.2.2.1 bt344.2.2.2.1 bt344.2.2.2.2).bind fun bt355 => (if (!(bt350.1 == bt355.1) || (!(bt350.2.1 == bt355.2.1) || (!(bt350.2.2.1 == bt355.2.2.1)))) = true then (laws_FnStepClockRepeat.j0 k bt344.2.2.2.1 bt350.2.2.2 bt355.2.2.2 true bt344.1 bt344.2.1 bt344.2.2.1 bt350.1 bt350.2.1 bt350.2.2.1 bt355.1 bt355.2.1 bt355.2.2.1) else (if (bt350.2.2.2 != bt355.2.2.2) = true then (laws_FnStepClockRepeat.j0 k bt344.2.2.2.1 bt350.2.2.2 bt355.2.2.2 true bt344.1 bt344.2.1 bt344.2.2.1 bt350.1 bt350.2.1 bt350.2.2.1 bt355.1 bt355.2.1 bt355.2.2.1) else (laws_FnStepClockRepeat.j0 k bt344.2.2.2.1 bt350.2.2.2 bt355.2.2.2 (!bt350.2.2.2) bt344.1 bt344.2.1 bt344.2.2.1 bt350.1 bt350.2.1 bt350.2.2.1 bt355.1 bt355.2.1 bt355.2.2.1))))))
theorem laws_FnStepClockRepeat.mono_l : ∀ k, (∀ y0 y1 y2 y3 y4 y5 y6 y7 y8 y9 y10 y11 y12, LeO (laws_FnStepClockRepeat.j0 k y0 y1 y2 y3 y4 y5 y6 y7 y8 y9 y10 y11 y12) (laws_FnStepClockRepeat.j0 (k + 1) y0 y1 y2 y3 y4 y5 y6 y7 y8 y9 y10 y11 y12))
  | 0 => fun _ _ _ _ _ _ _ _ _ _ _ _ _ r h => by simp [laws_FnStepClockRepeat.j0] at h
  | k + 1 => by
    have ih0 := laws_FnStepClockRepeat.mono_l k
    · intro y0 y1 y2 y3 y4 y5 y6 y7 y8 y9 y10 y11 y12
      unfold laws_FnStepClockRepeat.j0
      repeat' first
      | (with_reducible exact ih0 _ _ _ _ _ _ _ _ _ _ _ _ _)
      | (with_reducible exact impl_StepClock.mono _ _ _ _ _ _)
      | (with_reducible exact spec_DrawStepClock.mono _ _)
      | (with_reducible exact spec_StepClock.mono _ _ _ _ _ _)
      | (with_reducible exact LeO.refl _)
      | (with_reducible exact LeO.none _)
      | (with_reducible refine LeO.ite ?_ ?_)
      | (with_reducible refine LeO.bind ?_ (fun _ => ?_))
      | exact ih0 _ _ _ _ _ _ _ _ _ _ _ _ _
      | exact impl_StepClock.mono _ _ _ _ _ _
      | exact spec_DrawStepClock.mono _ _
      | exact spec_StepClock.mono _ _ _ _ _ _
      | exact LeO.none _
      | refine LeO.ite ?_ ?_
      | refine LeO.bind ?_ (fun _ => ?_)
theorem laws_FnStepClockRepeat.mono : ∀ a0 k, LeO (laws_FnStepClockRepeat.f k a0) (laws_FnStepClockRepeat.f (k + 1) a0) := by
  intro a0 k
  have ih0 := laws_FnStepClockRepeat.mono_l k
  unfold laws_FnStepClockRepeat.f
  repeat' first
      | (with_reducible exact ih0 _ _ _ _ _ _ _ _ _ _ _ _ _)
      | (with_reducible exact impl_StepClock.mono _ _ _ _ _ _)
      | (with_reducible exact spec_DrawStepClock.mono _ _)
      | (with_reducible exact spec_StepClock.mono _ _ _ _ _ _)
      | (with_reducible exact LeO.refl _)
      | (with_reducible exact LeO.none _)
      | (with_reducible refine LeO.ite ?_ ?_)
      | (with_reducible refine LeO.bind ?_ (fun _ => ?_))
      | exact ih0 _ _ _ _ _ _ _ _ _ _ _ _ _
      | exact impl_StepClock.mono _ _ _ _ _ _
      | exact spec_DrawStepClock.mono _ _
      | exact spec_StepClock.mono _ _ _ _ _ _
      | exact LeO.none _
      | refine LeO.ite ?_ ?_
      | refine LeO.bind ?_ (fun _ => ?_)
set_option maxHeartbeats 8000000 in
set_option maxRecDepth 100000 in
theorem laws_FnStepClockRepeat.calls (k : Nat) (A0 : Option Addr) (c0 : Nat) (l0 : List Int) (r : Bool) (w : World) (hr0 : Kd.C (Kd.int .u8) w A0 l0.length l0) (hc0 : l0.length ≤ c0) (h : laws_FnStepClockRepeat.f k l0 = some r) :
    Calls Try.prog 13 #[.slice A0 l0.length c0] w fun e w' => e = .returned (.bool r) ∧ Below w.heap.size w w' := by
  have hu25 := Try.underlying25
  have HR0 := Aside0.mk hr0
  have HC0 := Aside0.mk hc0
  clear hr0 hc0
  have HB := Aside0.mk (Below.refl w.heap.size w)
  have H : (if (l0.length : Int) > 1048576 then (some true) else ((spec_DrawStepClock.f k l0).bind fun bt344 => ((impl_StepClock.f k bt344.1 bt344.2.1 bt344.2.2.1 bt344.2.2.2.1 bt344.2.2.2.2).bind fun bt350 => ((spec_StepClock.f k bt344.1 bt344.2.1 bt344.2.2.1 bt344.2.2.2.1 bt344.2.2.2.2).bind fun bt355 => (if (!(bt350.1 == bt355.1) || (!(bt350.2.1 == bt355.2.1) || (!(bt350.2.2.1 == bt355.2.2.1)))) = true then (laws_FnStepClockRepeat.j0 k bt344.2.2.2.1 bt350.2.2.2 bt355.2.2.2 true bt344.1 bt344.2.1 bt344.2.2.1 bt350.1 bt350.2.1 bt350.2.2.1 bt355.1 bt355.2.1 bt355.2.2.1) else (if (bt350.2.2.2 != bt355.2.2.2) = true then (laws_FnStepClockRepeat.j0 k bt344.2.2.2.1 bt350.2.2.2 bt355.2.2.2 true bt344.1 bt344.2.1 bt344.2.2.1 bt350.1 bt350.2.1 bt350.2.2.1 bt355.1 bt355.2.1 bt355.2.2.1) else (laws_FnStepClockRepeat.j0 k bt344.2.2.2.1 bt350.2.2.2 bt355.2.2.2 (!bt350.2.2.2) bt344.1 bt344.2.1 bt344.2.2.1 bt350.1 bt350.2.1 bt350.2.2.1 bt355.1 bt355.2.1 bt355.2.2.1))))))) = some r := h
  clear h
  by_cases c2 : (l0.length : Int) > 1048576
  · rw [if_pos c2] at H
    have c2b0 : decide (1048576 < (l0.length : Int)) = true := decide_eq_true c2
    have c2b1 : decide (1048576 < l0.length) = true := decide_eq_true (by omega)
    clear c2
    obtain rfl := Option.some.inj H
    go_enter Try.func13, Try.ntmps13
    go_wp2
    go_ret
    exact ⟨by first | rfl | (simp [errW_none, errW_some] <;> rfl) | (simp [*, errW_none, errW_some] <;> rfl), by repeat (first | (with_reducible first | exact HB.out | apply below_alloc | apply pw_below_drewN | apply below_drew1) | exact HB.out)⟩
  · rw [if_neg c2] at H
    have c2b0 : decide (1048576 < (l0.length : Int)) = false := decide_eq_false c2
    have c2b1 : decide (1048576 < l0.length) = false := decide_eq_false (by omega)
    clear c2
    replace H := Option.bind_eq_some_iff.mp H
    obtain ⟨⟨t344, t345, t346, t347, t348⟩, A30, H⟩ := H
    replace H : ((impl_StepClock.f k t344 t345 t346 t347 t348).bind fun bt350 => ((spec_StepClock.f k t344 t345 t346 t347 t348).bind fun bt355 => (if (!(bt350.1 == bt355.1) || (!(bt350.2.1 == bt355.2.1) || (!(bt350.2.2.1 == bt355.2.2.1)))) = true then (laws_FnStepClockRepeat.j0 k t347 bt350.2.2.2 bt355.2.2.2 true t344 t345 t346 bt350.1 bt350.2.1 bt350.2.2.1 bt355.1 bt355.2.1 bt355.2.2.1) else (if (bt350.2.2.2 != bt355.2.2.2) = true then (laws_FnStepClockRepeat.j0 k t347 bt350.2.2.2 bt355.2.2.2 true t344 t345 t346 bt350.1 bt350.2.1 bt350.2.2.1 bt355.1 bt355.2.1 bt355.2.2.1) else (laws_FnStepClockRepeat.j0 k t347 bt350.2.2.2 bt355.2.2.2 (!bt350.2.2.2) t344 t345 t346 bt350.1 bt350.2.1 bt350.2.2.1 bt355.1 bt355.2.1 bt355.2.2.1))))) = some r := H
    have A3 := Aside0.mk A30
    clear A30
    replace H := Option.bind_eq_some_iff.mp H
    obtain ⟨⟨t350, t351, t352, t353⟩, A40, H⟩ := H
    replace H : ((spec_StepClock.f k t344 t345 t346 t347 t348).bind fun bt355 => (if (!(t350 == bt355.1) || (!(t351 == bt355.2.1) || (!(t352 == bt355.2.2.1)))) = true then (laws_FnStepClockRepeat.j0 k t347 t353 bt355.2.2.2 true t344 t345 t346 t350 t351 t352 bt355.1 bt355.2.1 bt355.2.2.1) else (if (t353 != bt355.2.2.2) = true then (laws_FnStepClockRepeat.j0 k t347 t353 bt355.2.2.2 true t344 t345 t346 t350 t351 t352 bt355.1 bt355.2.1 bt355.2.2.1) else (laws_FnStepClockRepeat.j0 k t347 t353 bt355.2.2.2 (!t353) t344 t345 t346 t350 t351 t352 bt355.1 bt355.2.1 bt355.2.2.1)))) = some r := H
    have A4 := Aside0.mk A40
    clear A40
    replace H := Option.bind_eq_some_iff.mp H
    obtain ⟨⟨t355, t356, t357, t358⟩, A50, H⟩ := H
    replace H : (if (!(t350 == t355) || (!(t351 == t356) || (!(t352 == t357)))) = true then (laws_FnStepClockRepeat.j0 k t347 t353 t358 true t344 t345 t346 t350 t351 t352 t355 t356 t357) else (if (t353 != t358) = true then (laws_FnStepClockRepeat.j0 k t347 t353 t358 true t344 t345 t346 t350 t351 t352 t355 t356 t357) else (laws_FnStepClockRepeat.j0 k t347 t353 t358 (!t353) t344 t345 t346 t350 t351 t352 t355 t356 t357))) = some r := H
    have A5 := Aside0.mk A50
    clear A50
    have HC6 := Aside0.mk H
    clear H
    go_enter Try.func13, Try.ntmps13
    go_upto_region 6 with (first | ((with_reducible refine gate_callee (f := 24) rfl ?_); refine goesL_ (some 19) rfl rfl Try.func24 (by kernel_rfl) rfl #[.slice A0 l0.length c0] rfl (by (try simp only [List.map_toArray, List.map_cons, List.map_nil]); first | done | rfl | (simp only [List.length_drop, List.length_take]; rfl)) ?_; (with_reducible refine (spec_DrawStepClock.calls k _ _ l0 t344 t345 t346 t347 t348 _ ?side1 ?side2 A3.out).mono ?_); (case side1 => repeat (first | exact HR0.out | (with_reducible refine Kd.C_alloc ?_ _) | (with_reducible refine Kd.C_drewN ?_ _) | (with_reducible refine Kd.C_drew ?_))); (case side2 => exact HC0.out); rintro e w7 ⟨rfl, hb⟩; refine ⟨_, rfl, ?_⟩; have n0_ := Aside0.mk (below_step (by repeat (first | (with_reducible first | exact HB.out | apply below_alloc | apply pw_below_drewN | apply below_drew1) | exact HB.out)) hb); clear HB; have HB := n0_; clear n0_; (try clear hb); (try clear hb2); (try clear hk); (try clear hi)) | ((with_reducible refine gate_dst (N := 3) rfl ?_); refine box_event ?hg (N := 3) ?hd (cs := #[.int .i64 0, .int .i64 0, .int .i64 0]) (t := 25) ?hr ?_; (case hd => rfl); (case hg => rfl); (case hr => first | (go_simp; done) | (go_simp; rfl)); intro gb349 hg w8 hbox hb; have n0_ := Aside0.mk (below_step (by repeat (first | (with_reducible first | exact HB.out | apply below_alloc | apply pw_below_drewN | apply below_drew1) | exact HB.out)) hb); have n1_ := Aside0.mk (hbox); have n2_ := Aside0.mk ((by rw [hg]; exact (below_size (by repeat (first | (with_reducible first | exact HB.out | apply below_alloc | apply pw_below_drewN | apply below_drew1) | exact HB.out))) : w.heap.size ≤ gb349)); have n3_ := Aside0.mk ((by rw [hg]; exact (below_size (by repeat (first | (with_reducible first | exact HB.out | apply below_alloc | apply pw_below_drewN | apply below_drew1) | exact HB.out))) : w.heap.size ≤ gb349)); clear HB; have HB := n0_; have BK349 := n1_; have GW349 := n2_; have GE349 := n3_; clear n0_ n1_ n2_ n3_; clear hb hbox hg; have hcz9_0 : w8.cell? ⟨gb349, 0, none⟩ = some (.int .i64 0) := (blk_cell BK349.out 0).trans rfl; have hcz9_1 : w8.cell? ⟨gb349, 1, none⟩ = some (.int .i64 0) := (blk_cell BK349.out 1).trans rfl; have hcz9_2 : w8.cell? ⟨gb349, 2, none⟩ = some (.int .i64 0) := (blk_cell BK349.out 2).trans rfl; have hfz9_0 := blk_frozen BK349.out 0; have hfz9_1 := blk_frozen BK349.out 1; have hfz9_2 := blk_frozen BK349.out 2) | ((with_reducible refine gate_callee (f := 22) rfl ?_); refine goesL_ (some 27) rfl rfl Try.func22 (by kernel_rfl) rfl #[.agg #[.int .i64 t344, .int .i64 t345, .int .i64 t346], .int .i64 t347, .int .i64 t348] rfl (by (try simp only [List.map_toArray, List.map_cons, List.map_nil]); first | done | rfl | (simp only [List.length_drop, List.length_take]; rfl)) ?_; (with_reducible refine (impl_StepClock.calls k t344 t345 t346 t347 t348 t350 t351 t352 t353 _ A4.out).mono ?_); rintro e w10 ⟨rfl, hb⟩; refine ⟨_, rfl, ?_⟩; have n0_ := Aside0.mk (blk_below (g := gb349) (o := .cells #[.int .i64 t344, .int .i64 t345, .int .i64 t346] 25 (0, 0)) (by (with_reducible repeat (first | refine blk_drewN ?_ _ | refine blk_drew ?_ | refine blk_alloc ?_ _)); refine blk_put (cs := #[.int .i64 t344, .int .i64 t345, .int .i64 0]) ?_ 2 _ rfl; (with_reducible repeat (first | refine blk_drewN ?_ _ | refine blk_drew ?_ | refine blk_alloc ?_ _)); refine blk_put (cs := #[.int .i64 t344, .int .i64 0, .int .i64 0]) ?_ 1 _ rfl; (with_reducible repeat (first | refine blk_drewN ?_ _ | refine blk_drew ?_ | refine blk_alloc ?_ _)); refine blk_put (cs := #[.int .i64 0, .int .i64 0, .int .i64 0]) ?_ 0 _ rfl; (with_reducible repeat (first | refine blk_drewN ?_ _ | refine blk_drew ?_ | refine blk_alloc ?_ _)); exact BK349.out) hb); have n1_ := Aside0.mk (below_step (by repeat (first | (with_reducible first | exact HB.out | apply below_alloc | apply pw_below_drewN | apply below_drew1 | refine below_set ?_ GE349.out) | exact HB.out)) hb); clear BK349; clear HB; have BK349 := n0_; have HB := n1_; clear n0_ n1_; (try clear hb); (try clear hb2); (try clear hk); (try clear hi)) | ((with_reducible refine gate_dst (N := 6) rfl ?_); refine box_event ?hg (N := 6) ?hd (cs := #[.int .i64 0, .int .i64 0, .int .i64 0]) (t := 25) ?hr ?_; (case hd => rfl); (case hg => rfl); (case hr => first | (go_simp; done) | (go_simp; rfl)); intro gb354 hg w11 hbox hb; have n0_ := Aside0.mk (blk_below (g := gb349) (o := .cells #[.int .i64 t344, .int .i64 t345, .int .i64 t346] 25 (0, 0)) (by (with_reducible repeat (first | refine blk_drewN ?_ _ | refine blk_drew ?_ | refine blk_alloc ?_ _)); exact BK349.out) hb); have n1_ := Aside0.mk (below_step (by repeat (first | (with_reducible first | exact HB.out | apply below_alloc | apply pw_below_drewN | apply below_drew1 | refine below_set ?_ GE349.out) | exact HB.out)) hb); have n2_ := Aside0.mk (hbox); have n3_ := Aside0.mk ((by rw [hg]; exact (below_size (by repeat (first | (with_reducible first | exact HB.out | apply below_alloc | apply pw_below_drewN | apply below_drew1 | refine below_set ?_ GE349.out) | exact HB.out))) : w.heap.size ≤ gb354)); have n4_ := Aside0.mk ((by rw [hg]; exact (below_size (by repeat (first | (with_reducible first | exact HB.out | apply below_alloc | apply pw_below_drewN | apply below_drew1 | refine below_set ?_ GE349.out) | exact HB.out))) : w.heap.size ≤ gb354)); have n5_ := Aside0.mk ((by rw [hg]; exact Nat.ne_of_lt (blk_lt (g := gb349) (o := .cells #[.int .i64 t344, .int .i64 t345, .int .i64 t346] 25 (0, 0)) (by (with_reducible repeat (first | refine blk_drewN ?_ _ | refine blk_drew ?_ | refine blk_alloc ?_ _)); exact BK349.out)) : gb349 ≠ gb354)); have n6_ := Aside0.mk ((by rw [hg]; exact Nat.ne_of_gt (blk_lt (g := gb349) (o := .cells #[.int .i64 t344, .int .i64 t345, .int .i64 t346] 25 (0, 0)) (by (with_reducible repeat (first | refine blk_drewN ?_ _ | refine blk_drew ?_ | refine blk_alloc ?_ _)); exact BK349.out)) : gb354 ≠ gb349)); clear BK349; clear HB; have BK349 := n0_; have HB := n1_; have BK354 := n2_; have GW354 := n3_; have GE354 := n4_; have NB349_354 := n5_; have NB354_349 := n6_; clear n0_ n1_ n2_ n3_ n4_ n5_ n6_; clear hb hbox hg; have hnb12 := NB354_349.out; have hnc12 := NB349_354.out; have hcz13_0 : w11.cell? ⟨gb354, 0, none⟩ = some (.int .i64 0) := (blk_cell BK354.out 0).trans rfl; have hcz13_1 : w11.cell? ⟨gb354, 1, none⟩ = some (.int .i64 0) := (blk_cell BK354.out 1).trans rfl; have hcz13_2 : w11.cell? ⟨gb354, 2, none⟩ = some (.int .i64 0) := (blk_cell BK354.out 2).trans rfl; have hfz13_0 := blk_frozen BK354.out 0; have hfz13_1 := blk_frozen BK354.out 1; have hfz13_2 := blk_frozen BK354.out 2; have hcz14_0 : w11.cell? ⟨gb349, 0, none⟩ = some (.int .i64 t344) := (blk_cell BK349.out 0).trans rfl; have hcz14_1 : w11.cell? ⟨gb349, 1, none⟩ = some (.int .i64 t345) := (blk_cell BK349.out 1).trans rfl; have hcz14_2 : w11.cell? ⟨gb349, 2, none⟩ = some (.int .i64 t346) := (blk_cell BK349.out 2).trans rfl; have hfz14_0 := blk_frozen BK349.out 0; have hfz14_1 := blk_frozen BK349.out 1; have hfz14_2 := blk_frozen BK349.out 2) | ((with_reducible refine gate_callee (f := 21) rfl ?_); refine goesL_ (some 34) rfl rfl Try.func21 (by kernel_rfl) rfl #[.agg #[.int .i64 t344, .int .i64 t345, .int .i64 t346], .int .i64 t347, .int .i64 t348] rfl (by (try simp only [List.map_toArray, List.map_cons, List.map_nil]); first | done | rfl | (simp only [List.length_drop, List.length_take]; rfl)) ?_; (with_reducible refine (spec_StepClock.calls k t344 t345 t346 t347 t348 t355 t356 t357 t358 _ A5.out).mono ?_); rintro e w15 ⟨rfl, hb⟩; refine ⟨_, rfl, ?_⟩; have n0_ := Aside0.mk (blk_below (g := gb349) (o := .cells #[.int .i64 t344, .int .i64 t345, .int .i64 t346] 25 (0, 0)) (by (with_reducible repeat (first | refine blk_drewN ?_ _ | refine blk_drew ?_ | refine blk_alloc ?_ _)); refine blk_far ?_ NB349_354.out _; (with_reducible repeat (first | refine blk_drewN ?_ _ | refine blk_drew ?_ | refine blk_alloc ?_ _)); refine blk_far ?_ NB349_354.out _; (with_reducible repeat (first | refine blk_drewN ?_ _ | refine blk_drew ?_ | refine blk_alloc ?_ _)); refine blk_far ?_ NB349_354.out _; (with_reducible repeat (first | refine blk_drewN ?_ _ | refine blk_drew ?_ | refine blk_alloc ?_ _)); exact BK349.out) hb); have n1_ := Aside0.mk (blk_below (g := gb354) (o := .cells #[.int .i64 t350, .int .i64 t351, .int .i64 t352] 25 (0, 0)) (by (with_reducible repeat (first | refine blk_drewN ?_ _ | refine blk_drew ?_ | refine blk_alloc ?_ _)); refine blk_put (cs := #[.int .i64 t350, .int .i64 t351, .int .i64 0]) ?_ 2 _ rfl; (with_reducible repeat (first | refine blk_drewN ?_ _ | refine blk_drew ?_ | refine blk_alloc ?_ _)); refine blk_put (cs := #[.int .i64 t350, .int .i64 0, .int .i64 0]) ?_ 1 _ rfl; (with_reducible repeat (first | refine blk_drewN ?_ _ | refine blk_drew ?_ | refine blk_alloc ?_ _)); refine blk_put (cs := #[.int .i64 0, .int .i64 0, .int .i64 0]) ?_ 0 _ rfl; (with_reducible repeat (first | refine blk_drewN ?_ _ | refine blk_drew ?_ | refine blk_alloc ?_ _)); exact BK354.out) hb); have n2_ := Aside0.mk (below_step (by repeat (first | (with_reducible first | exact HB.out | apply below_alloc | apply pw_below_drewN | apply below_drew1 | refine below_set ?_ GE349.out | refine below_set ?_ GE354.out) | exact HB.out)) hb); clear BK349; clear BK354; clear HB; have BK349 := n0_; have BK354 := n1_; have HB := n2_; clear n0_ n1_ n2_; (try clear hb); (try clear hb2); (try clear hk); (try clear hi)) | ((with_reducible refine gate_dst (N := 8) rfl ?_); refine box_event ?hg (N := 8) ?hd (cs := #[.int .i64 0, .int .i64 0, .int .i64 0]) (t := 25) ?hr ?_; (case hd => rfl); (case hg => rfl); (case hr => first | (go_simp; done) | (go_simp; rfl)); intro gb359 hg w16 hbox hb; have n0_ := Aside0.mk (blk_below (g := gb349) (o := .cells #[.int .i64 t344, .int .i64 t345, .int .i64 t346] 25 (0, 0)) (by (with_reducible repeat (first | refine blk_drewN ?_ _ | refine blk_drew ?_ | refine blk_alloc ?_ _)); exact BK349.out) hb); have n1_ := Aside0.mk (blk_below (g := gb354) (o := .cells #[.int .i64 t350, .int .i64 t351, .int .i64 t352] 25 (0, 0)) (by (with_reducible repeat (first | refine blk_drewN ?_ _ | refine blk_drew ?_ | refine blk_alloc ?_ _)); exact BK354.out) hb); have n2_ := Aside0.mk (below_step (by repeat (first | (with_reducible first | exact HB.out | apply below_alloc | apply pw_below_drewN | apply below_drew1 | refine below_set ?_ GE349.out | refine below_set ?_ GE354.out) | exact HB.out)) hb); have n3_ := Aside0.mk (hbox); have n4_ := Aside0.mk ((by rw [hg]; exact (below_size (by repeat (first | (with_reducible first | exact HB.out | apply below_alloc | apply pw_below_drewN | apply below_drew1 | refine below_set ?_ GE349.out | refine below_set ?_ GE354.out) | exact HB.out))) : w.heap.size ≤ gb359)); have n5_ := Aside0.mk ((by rw [hg]; exact (below_size (by repeat (first | (with_reducible first | exact HB.out | apply below_alloc | apply pw_below_drewN | apply below_drew1 | refine below_set ?_ GE349.out | refine below_set ?_ GE354.out) | exact HB.out))) : w.heap.size ≤ gb359)); have n6_ := Aside0.mk ((by rw [hg]; exact Nat.ne_of_lt (blk_lt (g := gb349) (o := .cells #[.int .i64 t344, .int .i64 t345, .int .i64 t346] 25 (0, 0)) (by (with_reducible repeat (first | refine blk_drewN ?_ _ | refine blk_drew ?_ | refine blk_alloc ?_ _)); exact BK349.out)) : gb349 ≠ gb359)); have n7_ := Aside0.mk ((by rw [hg]; exact Nat.ne_of_gt (blk_lt (g := gb349) (o := .cells #[.int .i64 t344, .int .i64 t345, .int .i64 t346] 25 (0, 0)) (by (with_reducible repeat (first | refine blk_drewN ?_ _ | refine blk_drew ?_ | refine blk_alloc ?_ _)); exact BK349.out)) : gb359 ≠ gb349)); have n8_ := Aside0.mk ((by rw [hg]; exact Nat.ne_of_lt (blk_lt (g := gb354) (o := .cells #[.int .i64 t350, .int .i64 t351, .int .i64 t352] 25 (0, 0)) (by (with_reducible repeat (first | refine blk_drewN ?_ _ | refine blk_drew ?_ | refine blk_alloc ?_ _)); exact BK354.out)) : gb354 ≠ gb359)); have n9_ := Aside0.mk ((by rw [hg]; exact Nat.ne_of_gt (blk_lt (g := gb354) (o := .cells #[.int .i64 t350, .int .i64 t351, .int .i64 t352] 25 (0, 0)) (by (with_reducible repeat (first | refine blk_drewN ?_ _ | refine blk_drew ?_ | refine blk_alloc ?_ _)); exact BK354.out)) : gb359 ≠ gb354)); clear BK349; clear BK354; clear HB; have BK349 := n0_; have BK354 := n1_; have HB := n2_; have BK359 := n3_; have GW359 := n4_; have GE359 := n5_; have NB349_359 := n6_; have NB359_349 := n7_; have NB354_359 := n8_; have NB359_354 := n9_; clear n0_ n1_ n2_ n3_ n4_ n5_ n6_ n7_ n8_ n9_; clear hb hbox hg; have hnb17 := NB359_349.out; have hnc17 := NB349_359.out; have hnb18 := NB359_354.out; have hnc18 := NB354_359.out; have hcz19_0 : w16.cell? ⟨gb359, 0, none⟩ = some (.int .i64 0) := (blk_cell BK359.out 0).trans rfl; have hcz19_1 : w16.cell? ⟨gb359, 1, none⟩ = some (.int .i64 0) := (blk_cell BK359.out 1).trans rfl; have hcz19_2 : w16.cell? ⟨gb359, 2, none⟩ = some (.int .i64 0) := (blk_cell BK359.out 2).trans rfl; have hfz19_0 := blk_frozen BK359.out 0; have hfz19_1 := blk_frozen BK359.out 1; have hfz19_2 := blk_frozen BK359.out 2))
    (try simp only [Act.put, List.setIfInBounds_toArray, List.set_cons_zero, List.set_cons_succ])
    go_cut [48] (fun v48 wc => ∃ (kq : Nat) (x48_5 : Bool), v48 = .bool x48_5 ∧ Aside0 (laws_FnStepClockRepeat.j0 kq t347 t353 t358 x48_5 t344 t345 t346 t350 t351 t352 t355 t356 t357 = some r) ∧ Aside0 (kq ≤ k) ∧ Aside0 (wc.heap[gb349]? = some (.cells #[.int .i64 t344, .int .i64 t345, .int .i64 t346] 25 (0, 0))) ∧ Aside0 (wc.heap[gb354]? = some (.cells #[.int .i64 t350, .int .i64 t351, .int .i64 t352] 25 (0, 0))) ∧ Aside0 (wc.heap[gb359]? = some (.cells #[.int .i64 t355, .int .i64 t356, .int .i64 t357] 25 (0, 0))) ∧ Aside0 (Below w.heap.size w wc))
    case first =>
      have H := HC6.out
      clear HC6
      by_cases c20 : (!(t350 == t355) || (!(t351 == t356) || (!(t352 == t357)))) = true
      · rw [if_pos c20] at H
        have c20b0 : (!(t350 == t355) || (!(t351 == t356) || (!(t352 == t357)))) = true := c20
        clear c20
        (first | rw [c20b0] | (simp only [i64_w, i32_w]; rw [c20b0]) | skip)
        have H' := Aside0.mk H
        clear H
        have hnb21 := NB354_349.out
        have hnc21 := NB349_354.out
        have hnb22 := NB354_359.out
        have hnc22 := NB359_354.out
        have hcz23_0 : w16.cell? ⟨gb354, 0, none⟩ = some (.int .i64 t350) := (blk_cell BK354.out 0).trans rfl
        have hcz23_1 : w16.cell? ⟨gb354, 1, none⟩ = some (.int .i64 t351) := (blk_cell BK354.out 1).trans rfl
        have hcz23_2 : w16.cell? ⟨gb354, 2, none⟩ = some (.int .i64 t352) := (blk_cell BK354.out 2).trans rfl
        have hfz23_0 := blk_frozen BK354.out 0
        have hfz23_1 := blk_frozen BK354.out 1
        have hfz23_2 := blk_frozen BK354.out 2
        have hnb24 := NB359_349.out
        have hnc24 := NB349_359.out
        have hcz25_0 : w16.cell? ⟨gb359, 0, none⟩ = some (.int .i64 0) := (blk_cell BK359.out 0).trans rfl
        have hcz25_1 : w16.cell? ⟨gb359, 1, none⟩ = some (.int .i64 0) := (blk_cell BK359.out 1).trans rfl
        have hcz25_2 : w16.cell? ⟨gb359, 2, none⟩ = some (.int .i64 0) := (blk_cell BK359.out 2).trans rfl
        have hfz25_0 := blk_frozen BK359.out 0
        have hfz25_1 := blk_frozen BK359.out 1
        have hfz25_2 := blk_frozen BK359.out 2
        go_wp2
        go_meet
        case rel => exact ⟨_, (true), (by first | rfl | (simp; done) | (simp [*]; done)), H', ⟨by first | omega | exact Nat.le_refl _⟩, ⟨by (with_reducible repeat (first | refine blk_drewN ?_ _ | refine blk_drew ?_ | refine blk_alloc ?_ _)); refine blk_far ?_ NB349_359.out _; (with_reducible repeat (first | refine blk_drewN ?_ _ | refine blk_drew ?_ | refine blk_alloc ?_ _)); refine blk_far ?_ NB349_359.out _; (with_reducible repeat (first | refine blk_drewN ?_ _ | refine blk_drew ?_ | refine blk_alloc ?_ _)); refine blk_far ?_ NB349_359.out _; (with_reducible repeat (first | refine blk_drewN ?_ _ | refine blk_drew ?_ | refine blk_alloc ?_ _)); exact BK349.out⟩, ⟨by (with_reducible repeat (first | refine blk_drewN ?_ _ | refine blk_drew ?_ | refine blk_alloc ?_ _)); refine blk_far ?_ NB354_359.out _; (with_reducible repeat (first | refine blk_drewN ?_ _ | refine blk_drew ?_ | refine blk_alloc ?_ _)); refine blk_far ?_ NB354_359.out _; (with_reducible repeat (first | refine blk_drewN ?_ _ | refine blk_drew ?_ | refine blk_alloc ?_ _)); refine blk_far ?_ NB354_359.out _; (with_reducible repeat (first | refine blk_drewN ?_ _ | refine blk_drew ?_ | refine blk_alloc ?_ _)); exact BK354.out⟩, ⟨by (with_reducible repeat (first | refine blk_drewN ?_ _ | refine blk_drew ?_ | refine blk_alloc ?_ _)); refine blk_put (cs := #[.int .i64 t355, .int .i64 t356, .int .i64 0]) ?_ 2 _ rfl; (with_reducible repeat (first | refine blk_drewN ?_ _ | refine blk_drew ?_ | refine blk_alloc ?_ _)); refine blk_put (cs := #[.int .i64 t355, .int .i64 0, .int .i64 0]) ?_ 1 _ rfl; (with_reducible repeat (first | refine blk_drewN ?_ _ | refine blk_drew ?_ | refine blk_alloc ?_ _)); refine blk_put (cs := #[.int .i64 0, .int .i64 0, .int .i64 0]) ?_ 0 _ rfl; (with_reducible repeat (first | refine blk_drewN ?_ _ | refine blk_drew ?_ | refine blk_alloc ?_ _)); exact BK359.out⟩, ⟨by repeat (first | (with_reducible first | exact HB.out | apply below_alloc | apply pw_below_drewN | apply below_drew1 | refine below_set ?_ GE349.out | refine below_set ?_ GE354.out | refine below_set ?_ GE359.out) | exact HB.out)⟩⟩
      · rw [if_neg c20] at H
        have c20b0 : (!(t350 == t355) || (!(t351 == t356) || (!(t352 == t357)))) = false := by simpa using c20
        clear c20
        (first | rw [c20b0] | (simp only [i64_w, i32_w]; rw [c20b0]) | skip)
        by_cases c26 : (t353 != t358) = true
        · rw [if_pos c26] at H
          have c26b0 : (t353 != t358) = true := c26
          (try (have c26b1 : decide (t353 = t358) = false := by simpa using c26))
          (try (have c26b2 : (t353 == t358) = false := by simpa using c26))
          (try (have c26b3 : ¬ (t353 = t358) := by simpa using c26))
          clear c26
          have H' := Aside0.mk H
          clear H
          have hnb27 := NB354_349.out
          have hnc27 := NB349_354.out
          have hnb28 := NB354_359.out
          have hnc28 := NB359_354.out
          have hcz29_0 : w16.cell? ⟨gb354, 0, none⟩ = some (.int .i64 t350) := (blk_cell BK354.out 0).trans rfl
          have hcz29_1 : w16.cell? ⟨gb354, 1, none⟩ = some (.int .i64 t351) := (blk_cell BK354.out 1).trans rfl
          have hcz29_2 : w16.cell? ⟨gb354, 2, none⟩ = some (.int .i64 t352) := (blk_cell BK354.out 2).trans rfl
          have hfz29_0 := blk_frozen BK354.out 0
          have hfz29_1 := blk_frozen BK354.out 1
          have hfz29_2 := blk_frozen BK354.out 2
          have hnb30 := NB359_349.out
          have hnc30 := NB349_359.out
          have hcz31_0 : w16.cell? ⟨gb359, 0, none⟩ = some (.int .i64 0) := (blk_cell BK359.out 0).trans rfl
          have hcz31_1 : w16.cell? ⟨gb359, 1, none⟩ = some (.int .i64 0) := (blk_cell BK359.out 1).trans rfl
          have hcz31_2 : w16.cell? ⟨gb359, 2, none⟩ = some (.int .i64 0) := (blk_cell BK359.out 2).trans rfl
          have hfz31_0 := blk_frozen BK359.out 0
          have hfz31_1 := blk_frozen BK359.out 1
          have hfz31_2 := blk_frozen BK359.out 2
          go_wp2
          go_meet
          case rel => exact ⟨_, (true), (by first | rfl | (simp; done) | (simp [*]; done)), H', ⟨by first | omega | exact Nat.le_refl _⟩, ⟨by (with_reducible repeat (first | refine blk_drewN ?_ _ | refine blk_drew ?_ | refine blk_alloc ?_ _)); refine blk_far ?_ NB349_359.out _; (with_reducible repeat (first | refine blk_drewN ?_ _ | refine blk_drew ?_ | refine blk_alloc ?_ _)); refine blk_far ?_ NB349_359.out _; (with_reducible repeat (first | refine blk_drewN ?_ _ | refine blk_drew ?_ | refine blk_alloc ?_ _)); refine blk_far ?_ NB349_359.out _; (with_reducible repeat (first | refine blk_drewN ?_ _ | refine blk_drew ?_ | refine blk_alloc ?_ _)); exact BK349.out⟩, ⟨by (with_reducible repeat (first | refine blk_drewN ?_ _ | refine blk_drew ?_ | refine blk_alloc ?_ _)); refine blk_far ?_ NB354_359.out _; (with_reducible repeat (first | refine blk_drewN ?_ _ | refine blk_drew ?_ | refine blk_alloc ?_ _)); refine blk_far ?_ NB354_359.out _; (with_reducible repeat (first | refine blk_drewN ?_ _ | refine blk_drew ?_ | refine blk_alloc ?_ _)); refine blk_far ?_ NB354_359.out _; (with_reducible repeat (first | refine blk_drewN ?_ _ | refine blk_drew ?_ | refine blk_alloc ?_ _)); exact BK354.out⟩, ⟨by (with_reducible repeat (first | refine blk_drewN ?_ _ | refine blk_drew ?_ | refine blk_alloc ?_ _)); refine blk_put (cs := #[.int .i64 t355, .int .i64 t356, .int .i64 0]) ?_ 2 _ rfl; (with_reducible repeat (first | refine blk_drewN ?_ _ | refine blk_drew ?_ | refine blk_alloc ?_ _)); refine blk_put (cs := #[.int .i64 t355, .int .i64 0, .int .i64 0]) ?_ 1 _ rfl; (with_reducible repeat (first | refine blk_drewN ?_ _ | refine blk_drew ?_ | refine blk_alloc ?_ _)); refine blk_put (cs := #[.int .i64 0, .int .i64 0, .int .i64 0]) ?_ 0 _ rfl; (with_reducible repeat (first | refine blk_drewN ?_ _ | refine blk_drew ?_ | refine blk_alloc ?_ _)); exact BK359.out⟩, ⟨by repeat (first | (with_reducible first | exact HB.out | apply below_alloc | apply pw_below_drewN | apply below_drew1 | refine below_set ?_ GE349.out | refine below_set ?_ GE354.out | refine below_set ?_ GE359.out) | exact HB.out)⟩⟩
        · rw [if_neg c26] at H
          have c26b0 : (t353 != t358) = false := by simpa using c26
          (try (have c26b1 : decide (t353 = t358) = true := by simpa using c26))
          (try (have c26b2 : (t353 == t358) = true := by simpa using c26))
          clear c26
          have H' := Aside0.mk H
          clear H
          have hnb32 := NB354_349.out
          have hnc32 := NB349_354.out
          have hnb33 := NB354_359.out
          have hnc33 := NB359_354.out
          have hcz34_0 : w16.cell? ⟨gb354, 0, none⟩ = some (.int .i64 t350) := (blk_cell BK354.out 0).trans rfl
          have hcz34_1 : w16.cell? ⟨gb354, 1, none⟩ = some (.int .i64 t351) := (blk_cell BK354.out 1).trans rfl
          have hcz34_2 : w16.cell? ⟨gb354, 2, none⟩ = some (.int .i64 t352) := (blk_cell BK354.out 2).trans rfl
          have hfz34_0 := blk_frozen BK354.out 0
          have hfz34_1 := blk_frozen BK354.out 1
          have hfz34_2 := blk_frozen BK354.out 2
          have hnb35 := NB359_349.out
          have hnc35 := NB349_359.out
          have hcz36_0 : w16.cell? ⟨gb359, 0, none⟩ = some (.int .i64 0) := (blk_cell BK359.out 0).trans rfl
          have hcz36_1 : w16.cell? ⟨gb359, 1, none⟩ = some (.int .i64 0) := (blk_cell BK359.out 1).trans rfl
          have hcz36_2 : w16.cell? ⟨gb359, 2, none⟩ = some (.int .i64 0) := (blk_cell BK359.out 2).trans rfl
          have hfz36_0 := blk_frozen BK359.out 0
          have hfz36_1 := blk_frozen BK359.out 1
          have hfz36_2 := blk_frozen BK359.out 2
          go_wp2
          go_meet
          case rel => exact ⟨_, (!t353), (by first | rfl | (simp; done) | (simp [*]; done)), H', ⟨by first | omega | exact Nat.le_refl _⟩, ⟨by (with_reducible repeat (first | refine blk_drewN ?_ _ | refine blk_drew ?_ | refine blk_alloc ?_ _)); refine blk_far ?_ NB349_359.out _; (with_reducible repeat (first | refine blk_drewN ?_ _ | refine blk_drew ?_ | refine blk_alloc ?_ _)); refine blk_far ?_ NB349_359.out _; (with_reducible repeat (first | refine blk_drewN ?_ _ | refine blk_drew ?_ | refine blk_alloc ?_ _)); refine blk_far ?_ NB349_359.out _; (with_reducible repeat (first | refine blk_drewN ?_ _ | refine blk_drew ?_ | refine blk_alloc ?_ _)); exact BK349.out⟩, ⟨by (with_reducible repeat (first | refine blk_drewN ?_ _ | refine blk_drew ?_ | refine blk_alloc ?_ _)); refine blk_far ?_ NB354_359.out _; (with_reducible repeat (first | refine blk_drewN ?_ _ | refine blk_drew ?_ | refine blk_alloc ?_ _)); refine blk_far ?_ NB354_359.out _; (with_reducible repeat (first | refine blk_drewN ?_ _ | refine blk_drew ?_ | refine blk_alloc ?_ _)); refine blk_far ?_ NB354_359.out _; (with_reducible repeat (first | refine blk_drewN ?_ _ | refine blk_drew ?_ | refine blk_alloc ?_ _)); exact BK354.out⟩, ⟨by (with_reducible repeat (first | refine blk_drewN ?_ _ | refine blk_drew ?_ | refine blk_alloc ?_ _)); refine blk_put (cs := #[.int .i64 t355, .int .i64 t356, .int .i64 0]) ?_ 2 _ rfl; (with_reducible repeat (first | refine blk_drewN ?_ _ | refine blk_drew ?_ | refine blk_alloc ?_ _)); refine blk_put (cs := #[.int .i64 t355, .int .i64 0, .int .i64 0]) ?_ 1 _ rfl; (with_reducible repeat (first | refine blk_drewN ?_ _ | refine blk_drew ?_ | refine blk_alloc ?_ _)); refine blk_put (cs := #[.int .i64 0, .int .i64 0, .int .i64 0]) ?_ 0 _ rfl; (with_reducible repeat (first | refine blk_drewN ?_ _ | refine blk_drew ?_ | refine blk_alloc ?_ _)); exact BK359.out⟩, ⟨by repeat (first | (with_reducible first | exact HB.out | apply below_alloc | apply pw_below_drewN | apply below_drew1 | refine below_set ?_ GE349.out | refine below_set ?_ GE354.out | refine below_set ?_ GE359.out) | exact HB.out)⟩⟩
    case rest =>
      clear HC6
      try clear c1
      try clear c2
      try clear c2b0
      try clear c2b1
      try clear p2
      try clear c3
      try clear c12
      try clear c13
      try clear c17
      try clear c18
      try clear c20
      try clear c20b0
      try clear c21
      try clear c22
      try clear c24
      try clear c26
      try clear c26b0
      try clear c26b1
      try clear c26b2
      try clear c27
      try clear c28
      try clear c30
      try clear c32
      try clear c33
      try clear c35
      try clear hcz13_0
      try clear hcz13_1
      try clear hcz13_2
      try clear hcz14_0
      try clear hcz14_1
      try clear hcz14_2
      try clear hcz19_0
      try clear hcz19_1
      try clear hcz19_2
      try clear hcz23_0
      try clear hcz23_1
      try clear hcz23_2
      try clear hcz25_0
      try clear hcz25_1
      try clear hcz25_2
      try clear hcz29_0
      try clear hcz29_1
      try clear hcz29_2
      try clear hcz31_0
      try clear hcz31_1
      try clear hcz31_2
      try clear hcz34_0
      try clear hcz34_1
      try clear hcz34_2
      try clear hcz36_0
      try clear hcz36_1
      try clear hcz36_2
      try clear hcz9_0
      try clear hcz9_1
      try clear hcz9_2
      try clear hfz13_0
      try clear hfz13_1
      try clear hfz13_2
      try clear hfz14_0
      try clear hfz14_1
      try clear hfz14_2
      try clear hfz19_0
      try clear hfz19_1
      try clear hfz19_2
      try clear hfz23_0
      try clear hfz23_1
      try clear hfz23_2
      try clear hfz25_0
      try clear hfz25_1
      try clear hfz25_2
      try clear hfz29_0
      try clear hfz29_1
      try clear hfz29_2
      try clear hfz31_0
      try clear hfz31_1
      try clear hfz31_2
      try clear hfz34_0
      try clear hfz34_1
      try clear hfz34_2
      try clear hfz36_0
      try clear hfz36_1
      try clear hfz36_2
      try clear hfz9_0
      try clear hfz9_1
      try clear hfz9_2
      obtain ⟨kq, x48_5, rfl, HA, HJ5, BK349, BK354, BK359, HB⟩ := hcut
      cases kq with
      | zero => exact absurd HA.out (by simp [laws_FnStepClockRepeat.j0])
      | succ kj5 =>
        have H := HA.out
        clear HA
        simp only [laws_FnStepClockRepeat.j0] at H
        by_cases c37 : x48_5 = true
        · subst c37
          have H1 : (if (t350 == t355 && (t351 == t356 && (t352 == t357))) = true then (some (t353 == t358)) else (some false)) = some r := by rw [if_pos rfl] at H; exact H
          clear H
          have H := H1
          clear H1
          by_cases c38 : (t350 == t355 && (t351 == t356 && (t352 == t357))) = true
          · rw [if_pos c38] at H
            have c38b0 : (t350 == t355 && (t351 == t356 && (t352 == t357))) = true := c38
            (try (have c38b1 : decide (t350 = t355 && (t351 == t356 && (t352 == t357))) = true := by simpa using c38))
            (try (have c38b2 : (t350 == t355 && (t351 == t356 && (t352 == t357))) = true := by simpa using c38))
            clear c38
            obtain rfl := Option.some.inj H
            have hnb39 := NB354_349.out
            have hnc39 := NB349_354.out
            have hnb40 := NB354_359.out
            have hnc40 := NB359_354.out
            have hcz41_0 : wc.cell? ⟨gb354, 0, none⟩ = some (.int .i64 t350) := (blk_cell BK354.out 0).trans rfl
            have hcz41_1 : wc.cell? ⟨gb354, 1, none⟩ = some (.int .i64 t351) := (blk_cell BK354.out 1).trans rfl
            have hcz41_2 : wc.cell? ⟨gb354, 2, none⟩ = some (.int .i64 t352) := (blk_cell BK354.out 2).trans rfl
            have hfz41_0 := blk_frozen BK354.out 0
            have hfz41_1 := blk_frozen BK354.out 1
            have hfz41_2 := blk_frozen BK354.out 2
            have hnb42 := NB359_349.out
            have hnc42 := NB349_359.out
            have hcz43_0 : wc.cell? ⟨gb359, 0, none⟩ = some (.int .i64 t355) := (blk_cell BK359.out 0).trans rfl
            have hcz43_1 : wc.cell? ⟨gb359, 1, none⟩ = some (.int .i64 t356) := (blk_cell BK359.out 1).trans rfl
            have hcz43_2 : wc.cell? ⟨gb359, 2, none⟩ = some (.int .i64 t357) := (blk_cell BK359.out 2).trans rfl
            have hfz43_0 := blk_frozen BK359.out 0
            have hfz43_1 := blk_frozen BK359.out 1
            have hfz43_2 := blk_frozen BK359.out 2
            go_wp2
            go_ret
            exact ⟨by first | rfl | (simp [errW_none, errW_some] <;> rfl) | (simp [*, errW_none, errW_some] <;> rfl), by repeat (first | (with_reducible first | exact HB.out | apply below_alloc | apply pw_below_drewN | apply below_drew1 | refine below_set ?_ GE349.out | refine below_set ?_ GE354.out | refine below_set ?_ GE359.out) | exact HB.out)⟩
          · rw [if_neg c38] at H
            have c38b0 : (t350 == t355 && (t351 == t356 && (t352 == t357))) = false := by simpa using c38
            (try (have c38b1 : decide (t350 = t355 && (t351 == t356 && (t352 == t357))) = false := by simpa using c38))
            (try (have c38b2 : (t350 == t355 && (t351 == t356 && (t352 == t357))) = false := by simpa using c38))
            (try (have c38b3 : ¬ (t350 = t355 && (t351 == t356 && (t352 == t357))) := by simpa using c38))
            clear c38
            obtain rfl := Option.some.inj H
            have hnb44 := NB354_349.out
            have hnc44 := NB349_354.out
            have hnb45 := NB354_359.out
            have hnc45 := NB359_354.out
            have hcz46_0 : wc.cell? ⟨gb354, 0, none⟩ = some (.int .i64 t350) := (blk_cell BK354.out 0).trans rfl
            have hcz46_1 : wc.cell? ⟨gb354, 1, none⟩ = some (.int .i64 t351) := (blk_cell BK354.out 1).trans rfl
            have hcz46_2 : wc.cell? ⟨gb354, 2, none⟩ = some (.int .i64 t352) := (blk_cell BK354.out 2).trans rfl
            have hfz46_0 := blk_frozen BK354.out 0
            have hfz46_1 := blk_frozen BK354.out 1
            have hfz46_2 := blk_frozen BK354.out 2
            have hnb47 := NB359_349.out
            have hnc47 := NB349_359.out
            have hcz48_0 : wc.cell? ⟨gb359, 0, none⟩ = some (.int .i64 t355) := (blk_cell BK359.out 0).trans rfl
            have hcz48_1 : wc.cell? ⟨gb359, 1, none⟩ = some (.int .i64 t356) := (blk_cell BK359.out 1).trans rfl
            have hcz48_2 : wc.cell? ⟨gb359, 2, none⟩ = some (.int .i64 t357) := (blk_cell BK359.out 2).trans rfl
            have hfz48_0 := blk_frozen BK359.out 0
            have hfz48_1 := blk_frozen BK359.out 1
            have hfz48_2 := blk_frozen BK359.out 2
            go_wp2
            go_ret
            exact ⟨by first | rfl | (simp [errW_none, errW_some] <;> rfl) | (simp [*, errW_none, errW_some] <;> rfl), by repeat (first | (with_reducible first | exact HB.out | apply below_alloc | apply pw_below_drewN | apply below_drew1 | refine below_set ?_ GE349.out | refine below_set ?_ GE354.out | refine below_set ?_ GE359.out) | exact HB.out)⟩
        · replace c37 := Bool.eq_false_iff.mpr c37
          subst c37
          have H1 : ((impl_OffsetAt.f t344 t345 t346 t347).bind fun bt360 => ((laws_size.f bt360.1).bind fun t362 => (if t362 > 1000000 then (some bt360.2) else ((impl_StepClock.f kj5 t344 t345 t346 t347 bt360.1).bind fun bt363 => (if bt360.2 = true then (if bt363.2.2.2 = true then ((laws_size.f bt363.1).bind fun t368 => ((laws_size.f bt360.1).bind fun t369 => (some (decide (t368 ≤ t369))))) else (some false)) else (some false)))))) = some r := by rw [if_neg (show ¬ (false = true) by decide)] at H; exact H
          clear H
          have H := H1
          clear H1
          replace H := Option.bind_eq_some_iff.mp H
          obtain ⟨⟨t360, t361⟩, A490, H⟩ := H
          replace H : ((laws_size.f t360).bind fun t362 => (if t362 > 1000000 then (some t361) else ((impl_StepClock.f kj5 t344 t345 t346 t347 t360).bind fun bt363 => (if t361 = true then (if bt363.2.2.2 = true then ((laws_size.f bt363.1).bind fun t368 => ((laws_size.f t360).bind fun t369 => (some (decide (t368 ≤ t369))))) else (some false)) else (some false))))) = some r := H
          have A49 := Aside0.mk A490
          clear A490
          replace H := Option.bind_eq_some_iff.mp H
          obtain ⟨t362, A500, H⟩ := H
          replace H : (if t362 > 1000000 then (some t361) else ((impl_StepClock.f kj5 t344 t345 t346 t347 t360).bind fun bt363 => (if t361 = true then (if bt363.2.2.2 = true then ((laws_size.f bt363.1).bind fun t368 => ((laws_size.f t360).bind fun t369 => (some (decide (t368 ≤ t369))))) else (some false)) else (some false)))) = some r := H
          have A50 := Aside0.mk A500
          clear A500
          by_cases c51 : t362 > 1000000
          · rw [if_pos c51] at H
            have c51b0 : decide (1000000 < t362) = true := decide_eq_true c51
            clear c51
            obtain rfl := Option.some.inj H
            have hnb52 := NB349_354.out
            have hnc52 := NB354_349.out
            have hnb53 := NB349_359.out
            have hnc53 := NB359_349.out
            have hcz54_0 : wc.cell? ⟨gb349, 0, none⟩ = some (.int .i64 t344) := (blk_cell BK349.out 0).trans rfl
            have hcz54_1 : wc.cell? ⟨gb349, 1, none⟩ = some (.int .i64 t345) := (blk_cell BK349.out 1).trans rfl
            have hcz54_2 : wc.cell? ⟨gb349, 2, none⟩ = some (.int .i64 t346) := (blk_cell BK349.out 2).trans rfl
            have hfz54_0 := blk_frozen BK349.out 0
            have hfz54_1 := blk_frozen BK349.out 1
            have hfz54_2 := blk_frozen BK349.out 2
            go_wp2_with (first | ((with_reducible refine gate_callee (f := 18) rfl ?_); refine goesL_ (some 60) rfl rfl Try.func18 (by kernel_rfl) rfl #[.agg #[.int .i64 t344, .int .i64 t345, .int .i64 t346], .int .i64 t347] rfl (by (try simp only [List.map_toArray, List.map_cons, List.map_nil]); first | done | rfl | (simp only [List.length_drop, List.length_take]; rfl)) ?_; (with_reducible refine (impl_OffsetAt.calls t344 t345 t346 t347 t360 t361 _ A49.out).mono ?_); rintro e w55 ⟨rfl, hb⟩; refine ⟨_, rfl, ?_⟩; have n0_ := Aside0.mk (blk_below (g := gb349) (o := .cells #[.int .i64 t344, .int .i64 t345, .int .i64 t346] 25 (0, 0)) (by (with_reducible repeat (first | refine blk_drewN ?_ _ | refine blk_drew ?_ | refine blk_alloc ?_ _)); exact BK349.out) hb); have n1_ := Aside0.mk (blk_below (g := gb354) (o := .cells #[.int .i64 t350, .int .i64 t351, .int .i64 t352] 25 (0, 0)) (by (with_reducible repeat (first | refine blk_drewN ?_ _ | refine blk_drew ?_ | refine blk_alloc ?_ _)); exact BK354.out) hb); have n2_ := Aside0.mk (blk_below (g := gb359) (o := .cells #[.int .i64 t355, .int .i64 t356, .int .i64 t357] 25 (0, 0)) (by (with_reducible repeat (first | refine blk_drewN ?_ _ | refine blk_drew ?_ | refine blk_alloc ?_ _)); exact BK359.out) hb); have n3_ := Aside0.mk (below_step (by repeat (first | (with_reducible first | exact HB.out | apply below_alloc | apply pw_below_drewN | apply below_drew1 | refine below_set ?_ GE349.out | refine below_set ?_ GE354.out | refine below_set ?_ GE359.out) | exact HB.out)) hb); clear BK349; clear BK354; clear BK359; clear HB; have BK349 := n0_; have BK354 := n1_; have BK359 := n2_; have HB := n3_; clear n0_ n1_ n2_ n3_; (try clear hb); (try clear hb2); (try clear hk); (try clear hi)) | ((with_reducible refine gate_callee (f := 25) rfl ?_); refine goesL_ (some 64) rfl rfl Try.func25 (by kernel_rfl) rfl #[.int .i64 t360] rfl (by (try simp only [List.map_toArray, List.map_cons, List.map_nil]); first | done | rfl | (simp only [List.length_drop, List.length_take]; rfl)) ?_; (with_reducible refine (laws_size.calls t360 t362 _ A50.out).mono ?_); rintro e w56 ⟨rfl, hb⟩; refine ⟨_, rfl, ?_⟩; have n0_ := Aside0.mk (blk_below (g := gb349) (o := .cells #[.int .i64 t344, .int .i64 t345, .int .i64 t346] 25 (0, 0)) (by (with_reducible repeat (first | refine blk_drewN ?_ _ | refine blk_drew ?_ | refine blk_alloc ?_ _)); exact BK349.out) hb); have n1_ := Aside0.mk (blk_below (g := gb354) (o := .cells #[.int .i64 t350, .int .i64 t351, .int .i64 t352] 25 (0, 0)) (by (with_reducible repeat (first | refine blk_drewN ?_ _ | refine blk_drew ?_ | refine blk_alloc ?_ _)); exact BK354.out) hb); have n2_ := Aside0.mk (blk_below (g := gb359) (o := .cells #[.int .i64 t355, .int .i64 t356, .int .i64 t357] 25 (0, 0)) (by (with_reducible repeat (first | refine blk_drewN ?_ _ | refine blk_drew ?_ | refine blk_alloc ?_ _)); exact BK359.out) hb); have n3_ := Aside0.mk (below_step (by repeat (first | (with_reducible first | exact HB.out | apply below_alloc | apply pw_below_drewN | apply below_drew1 | refine below_set ?_ GE349.out | refine below_set ?_ GE354.out | refine below_set ?_ GE359.out) | exact HB.out)) hb); clear BK349; clear BK354; clear BK359; clear HB; have BK349 := n0_; have BK354 := n1_; have BK359 := n2_; have HB := n3_; clear n0_ n1_ n2_ n3_; (try clear hb); (try clear hb2); (try clear hk); (try clear hi)))
            go_ret
            exact ⟨by first | rfl | (simp [errW_none, errW_some] <;> rfl) | (simp [*, errW_none, errW_some] <;> rfl), by repeat (first | (with_reducible first | exact HB.out | apply below_alloc | apply pw_below_drewN | apply below_drew1 | refine below_set ?_ GE349.out | refine below_set ?_ GE354.out | refine below_set ?_ GE359.out) | exact HB.out)⟩
          · rw [if_neg c51] at H
            have c51b0 : decide (1000000 < t362) = false := decide_eq_false c51
            clear c51
            replace H := Option.bind_eq_some_iff.mp H
            obtain ⟨⟨t363, t364, t365, t366⟩, A570, H⟩ := H
            replace H : (if t361 = true then (if t366 = true then ((laws_size.f t363).bind fun t368 => ((laws_size.f t360).bind fun t369 => (some (decide (t368 ≤ t369))))) else (some false)) else (some false)) = some r := H
            have A57 := Aside0.mk A570
            clear A570
            by_cases c58 : t361 = true
            · subst c58
              have H1 : (if t366 = true then ((laws_size.f t363).bind fun t368 => ((laws_size.f t360).bind fun t369 => (some (decide (t368 ≤ t369))))) else (some false)) = some r := by rw [if_pos rfl] at H; exact H
              clear H
              have H := H1
              clear H1
              by_cases c59 : t366 = true
              · subst c59
                have H1 : ((laws_size.f t363).bind fun t368 => ((laws_size.f t360).bind fun t369 => (some (decide (t368 ≤ t369))))) = some r := by rw [if_pos rfl] at H; exact H
                clear H
                have H := H1
                clear H1
                replace H := Option.bind_eq_some_iff.mp H
                obtain ⟨t368, A600, H⟩ := H
                replace H : ((laws_size.f t360).bind fun t369 => (some (decide (t368 ≤ t369)))) = some r := H
                have A60 := Aside0.mk A600
                clear A600
                replace H := Option.bind_eq_some_iff.mp H
                obtain ⟨t369, A610, H⟩ := H
                replace H : (some (decide (t368 ≤ t369))) = some r := H
                have A61 := Aside0.mk A610
                clear A610
                obtain rfl := Option.some.inj H
                have hnb62 := NB349_354.out
                have hnc62 := NB354_349.out
                have hnb63 := NB349_359.out
                have hnc63 := NB359_349.out
                have hcz64_0 : wc.cell? ⟨gb349, 0, none⟩ = some (.int .i64 t344) := (blk_cell BK349.out 0).trans rfl
                have hcz64_1 : wc.cell? ⟨gb349, 1, none⟩ = some (.int .i64 t345) := (blk_cell BK349.out 1).trans rfl
                have hcz64_2 : wc.cell? ⟨gb349, 2, none⟩ = some (.int .i64 t346) := (blk_cell BK349.out 2).trans rfl
                have hfz64_0 := blk_frozen BK349.out 0
                have hfz64_1 := blk_frozen BK349.out 1
                have hfz64_2 := blk_frozen BK349.out 2
                go_wp2_with (first | ((with_reducible refine gate_callee (f := 18) rfl ?_); refine goesL_ (some 60) rfl rfl Try.func18 (by kernel_rfl) rfl #[.agg #[.int .i64 t344, .int .i64 t345, .int .i64 t346], .int .i64 t347] rfl (by (try simp only [List.map_toArray, List.map_cons, List.map_nil]); first | done | rfl | (simp only [List.length_drop, List.length_take]; rfl)) ?_; (with_reducible refine (impl_OffsetAt.calls t344 t345 t346 t347 t360 true _ A49.out).mono ?_); rintro e w65 ⟨rfl, hb⟩; refine ⟨_, rfl, ?_⟩; have n0_ := Aside0.mk (blk_below (g := gb349) (o := .cells #[.int .i64 t344, .int .i64 t345, .int .i64 t346] 25 (0, 0)) (by (with_reducible repeat (first | refine blk_drewN ?_ _ | refine blk_drew ?_ | refine blk_alloc ?_ _)); exact BK349.out) hb); have n1_ := Aside0.mk (blk_below (g := gb354) (o := .cells #[.int .i64 t350, .int .i64 t351, .int .i64 t352] 25 (0, 0)) (by (with_reducible repeat (first | refine blk_drewN ?_ _ | refine blk_drew ?_ | refine blk_alloc ?_ _)); exact BK354.out) hb); have n2_ := Aside0.mk (blk_below (g := gb359) (o := .cells #[.int .i64 t355, .int .i64 t356, .int .i64 t357] 25 (0, 0)) (by (with_reducible repeat (first | refine blk_drewN ?_ _ | refine blk_drew ?_ | refine blk_alloc ?_ _)); exact BK359.out) hb); have n3_ := Aside0.mk (below_step (by repeat (first | (with_reducible first | exact HB.out | apply below_alloc | apply pw_below_drewN | apply below_drew1 | refine below_set ?_ GE349.out | refine below_set ?_ GE354.out | refine below_set ?_ GE359.out) | exact HB.out)) hb); clear BK349; clear BK354; clear BK359; clear HB; have BK349 := n0_; have BK354 := n1_; have BK359 := n2_; have HB := n3_; clear n0_ n1_ n2_ n3_; (try clear hb); (try clear hb2); (try clear hk); (try clear hi)) | ((with_reducible refine gate_callee (f := 25) rfl ?_); refine goesL_ (some 64) rfl rfl Try.func25 (by kernel_rfl) rfl #[.int .i64 t360] rfl (by (try simp only [List.map_toArray, List.map_cons, List.map_nil]); first | done | rfl | (simp only [List.length_drop, List.length_take]; rfl)) ?_; (with_reducible refine (laws_size.calls t360 t362 _ A50.out).mono ?_); rintro e w66 ⟨rfl, hb⟩; refine ⟨_, rfl, ?_⟩; have n0_ := Aside0.mk (blk_below (g := gb349) (o := .cells #[.int .i64 t344, .int .i64 t345, .int .i64 t346] 25 (0, 0)) (by (with_reducible repeat (first | refine blk_drewN ?_ _ | refine blk_drew ?_ | refine blk_alloc ?_ _)); exact BK349.out) hb); have n1_ := Aside0.mk (blk_below (g := gb354) (o := .cells #[.int .i64 t350, .int .i64 t351, .int .i64 t352] 25 (0, 0)) (by (with_reducible repeat (first | refine blk_drewN ?_ _ | refine blk_drew ?_ | refine blk_alloc ?_ _)); exact BK354.out) hb); have n2_ := Aside0.mk (blk_below (g := gb359) (o := .cells #[.int .i64 t355, .int .i64 t356, .int .i64 t357] 25 (0, 0)) (by (with_reducible repeat (first | refine blk_drewN ?_ _ | refine blk_drew ?_ | refine blk_alloc ?_ _)); exact BK359.out) hb); have n3_ := Aside0.mk (below_step (by repeat (first | (with_reducible first | exact HB.out | apply below_alloc | apply pw_below_drewN | apply below_drew1 | refine below_set ?_ GE349.out | refine below_set ?_ GE354.out | refine below_set ?_ GE359.out) | exact HB.out)) hb); clear BK349; clear BK354; clear BK359; clear HB; have BK349 := n0_; have BK354 := n1_; have BK359 := n2_; have HB := n3_; clear n0_ n1_ n2_ n3_; (try clear hb); (try clear hb2); (try clear hk); (try clear hi); have hcz67_0 : w66.cell? ⟨gb349, 0, none⟩ = some (.int .i64 t344) := (blk_cell BK349.out 0).trans rfl; have hcz67_1 : w66.cell? ⟨gb349, 1, none⟩ = some (.int .i64 t345) := (blk_cell BK349.out 1).trans rfl; have hcz67_2 : w66.cell? ⟨gb349, 2, none⟩ = some (.int .i64 t346) := (blk_cell BK349.out 2).trans rfl; have hfz67_0 := blk_frozen BK349.out 0; have hfz67_1 := blk_frozen BK349.out 1; have hfz67_2 := blk_frozen BK349.out 2) | ((with_reducible refine gate_callee (f := 22) rfl ?_); refine goesL_ (some 71) rfl rfl Try.func22 (by kernel_rfl) rfl #[.agg #[.int .i64 t344, .int .i64 t345, .int .i64 t346], .int .i64 t347, .int .i64 t360] rfl (by (try simp only [List.map_toArray, List.map_cons, List.map_nil]); first | done | rfl | (simp only [List.length_drop, List.length_take]; rfl)) ?_; (with_reducible refine (impl_StepClock.calls kj5 t344 t345 t346 t347 t360 t363 t364 t365 true _ A57.out).mono ?_); rintro e w68 ⟨rfl, hb⟩; refine ⟨_, rfl, ?_⟩; have n0_ := Aside0.mk (blk_below (g := gb349) (o := .cells #[.int .i64 t344, .int .i64 t345, .int .i64 t346] 25 (0, 0)) (by (with_reducible repeat (first | refine blk_drewN ?_ _ | refine blk_drew ?_ | refine blk_alloc ?_ _)); exact BK349.out) hb); have n1_ := Aside0.mk (blk_below (g := gb354) (o := .cells #[.int .i64 t350, .int .i64 t351, .int .i64 t352] 25 (0, 0)) (by (with_reducible repeat (first | refine blk_drewN ?_ _ | refine blk_drew ?_ | refine blk_alloc ?_ _)); exact BK354.out) hb); have n2_ := Aside0.mk (blk_below (g := gb359) (o := .cells #[.int .i64 t355, .int .i64 t356, .int .i64 t357] 25 (0, 0)) (by (with_reducible repeat (first | refine blk_drewN ?_ _ | refine blk_drew ?_ | refine blk_alloc ?_ _)); exact BK359.out) hb); have n3_ := Aside0.mk (below_step (by repeat (first | (with_reducible first | exact HB.out | apply below_alloc | apply pw_below_drewN | apply below_drew1 | refine below_set ?_ GE349.out | refine below_set ?_ GE354.out | refine below_set ?_ GE359.out) | exact HB.out)) hb); clear BK349; clear BK354; clear BK359; clear HB; have BK349 := n0_; have BK354 := n1_; have BK359 := n2_; have HB := n3_; clear n0_ n1_ n2_ n3_; (try clear hb); (try clear hb2); (try clear hk); (try clear hi)) | ((with_reducible refine gate_dst (N := 12) rfl ?_); refine box_event ?hg (N := 12) ?hd (cs := #[.int .i64 0, .int .i64 0, .int .i64 0]) (t := 25) ?hr ?_; (case hd => rfl); (case hg => rfl); (case hr => first | (go_simp; done) | (go_simp; rfl)); intro gb367 hg w69 hbox hb; have n0_ := Aside0.mk (blk_below (g := gb349) (o := .cells #[.int .i64 t344, .int .i64 t345, .int .i64 t346] 25 (0, 0)) (by (with_reducible repeat (first | refine blk_drewN ?_ _ | refine blk_drew ?_ | refine blk_alloc ?_ _)); exact BK349.out) hb); have n1_ := Aside0.mk (blk_below (g := gb354) (o := .cells #[.int .i64 t350, .int .i64 t351, .int .i64 t352] 25 (0, 0)) (by (with_reducible repeat (first | refine blk_drewN ?_ _ | refine blk_drew ?_ | refine blk_alloc ?_ _)); exact BK354.out) hb); have n2_ := Aside0.mk (blk_below (g := gb359) (o := .cells #[.int .i64 t355, .int .i64 t356, .int .i64 t357] 25 (0, 0)) (by (with_reducible repeat (first | refine blk_drewN ?_ _ | refine blk_drew ?_ | refine blk_alloc ?_ _)); exact BK359.out) hb); have n3_ := Aside0.mk (below_step (by repeat (first | (with_reducible first | exact HB.out | apply below_alloc | apply pw_below_drewN | apply below_drew1 | refine below_set ?_ GE349.out | refine below_set ?_ GE354.out | refine below_set ?_ GE359.out) | exact HB.out)) hb); have n4_ := Aside0.mk (hbox); have n5_ := Aside0.mk ((by rw [hg]; exact (below_size (by repeat (first | (with_reducible first | exact HB.out | apply below_alloc | apply pw_below_drewN | apply below_drew1 | refine below_set ?_ GE349.out | refine below_set ?_ GE354.out | refine below_set ?_ GE359.out) | exact HB.out))) : w.heap.size ≤ gb367)); have n6_ := Aside0.mk ((by rw [hg]; exact (below_size (by repeat (first | (with_reducible first | exact HB.out | apply below_alloc | apply pw_below_drewN | apply below_drew1 | refine below_set ?_ GE349.out | refine below_set ?_ GE354.out | refine below_set ?_ GE359.out) | exact HB.out))) : w.heap.size ≤ gb367)); have n7_ := Aside0.mk ((by rw [hg]; exact Nat.ne_of_lt (blk_lt (g := gb349) (o := .cells #[.int .i64 t344, .int .i64 t345, .int .i64 t346] 25 (0, 0)) (by (with_reducible repeat (first | refine blk_drewN ?_ _ | refine blk_drew ?_ | refine blk_alloc ?_ _)); exact BK349.out)) : gb349 ≠ gb367)); have n8_ := Aside0.mk ((by rw [hg]; exact Nat.ne_of_gt (blk_lt (g := gb349) (o := .cells #[.int .i64 t344, .int .i64 t345, .int .i64 t346] 25 (0, 0)) (by (with_reducible repeat (first | refine blk_drewN ?_ _ | refine blk_drew ?_ | refine blk_alloc ?_ _)); exact BK349.out)) : gb367 ≠ gb349)); have n9_ := Aside0.mk ((by rw [hg]; exact Nat.ne_of_lt (blk_lt (g := gb354) (o := .cells #[.int .i64 t350, .int .i64 t351, .int .i64 t352] 25 (0, 0)) (by (with_reducible repeat (first | refine blk_drewN ?_ _ | refine blk_drew ?_ | refine blk_alloc ?_ _)); exact BK354.out)) : gb354 ≠ gb367)); have n10_ := Aside0.mk ((by rw [hg]; exact Nat.ne_of_gt (blk_lt (g := gb354) (o := .cells #[.int .i64 t350, .int .i64 t351, .int .i64 t352] 25 (0, 0)) (by (with_reducible repeat (first | refine blk_drewN ?_ _ | refine blk_drew ?_ | refine blk_alloc ?_ _)); exact BK354.out)) : gb367 ≠ gb354)); have n11_ := Aside0.mk ((by rw [hg]; exact Nat.ne_of_lt (blk_lt (g := gb359) (o := .cells #[.int .i64 t355, .int .i64 t356, .int .i64 t357] 25 (0, 0)) (by (with_reducible repeat (first | refine blk_drewN ?_ _ | refine blk_drew ?_ | refine blk_alloc ?_ _)); exact BK359.out)) : gb359 ≠ gb367)); have n12_ := Aside0.mk ((by rw [hg]; exact Nat.ne_of_gt (blk_lt (g := gb359) (o := .cells #[.int .i64 t355, .int .i64 t356, .int .i64 t357] 25 (0, 0)) (by (with_reducible repeat (first | refine blk_drewN ?_ _ | refine blk_drew ?_ | refine blk_alloc ?_ _)); exact BK359.out)) : gb367 ≠ gb359)); clear BK349; clear BK354; clear BK359; clear HB; have BK349 := n0_; have BK354 := n1_; have BK359 := n2_; have HB := n3_; have BK367 := n4_; have GW367 := n5_; have GE367 := n6_; have NB349_367 := n7_; have NB367_349 := n8_; have NB354_367 := n9_; have NB367_354 := n10_; have NB359_367 := n11_; have NB367_359 := n12_; clear n0_ n1_ n2_ n3_ n4_ n5_ n6_ n7_ n8_ n9_ n10_ n11_ n12_; clear hb hbox hg; have hnb70 := NB367_349.out; have hnc70 := NB349_367.out; have hnb71 := NB367_354.out; have hnc71 := NB354_367.out; have hnb72 := NB367_359.out; have hnc72 := NB359_367.out; have hcz73_0 : w69.cell? ⟨gb367, 0, none⟩ = some (.int .i64 0) := (blk_cell BK367.out 0).trans rfl; have hcz73_1 : w69.cell? ⟨gb367, 1, none⟩ = some (.int .i64 0) := (blk_cell BK367.out 1).trans rfl; have hcz73_2 : w69.cell? ⟨gb367, 2, none⟩ = some (.int .i64 0) := (blk_cell BK367.out 2).trans rfl; have hfz73_0 := blk_frozen BK367.out 0; have hfz73_1 := blk_frozen BK367.out 1; have hfz73_2 := blk_frozen BK367.out 2) | (go_at_call 25; (with_reducible refine (laws_size.calls t363 t368 _ A60.out).mono ?_); rintro e w74 ⟨rfl, hb⟩; have n0_ := Aside0.mk (blk_below (g := gb349) (o := .cells #[.int .i64 t344, .int .i64 t345, .int .i64 t346] 25 (0, 0)) (by (with_reducible repeat (first | refine blk_drewN ?_ _ | refine blk_drew ?_ | refine blk_alloc ?_ _)); refine blk_far ?_ NB349_367.out _; (with_reducible repeat (first | refine blk_drewN ?_ _ | refine blk_drew ?_ | refine blk_alloc ?_ _)); refine blk_far ?_ NB349_367.out _; (with_reducible repeat (first | refine blk_drewN ?_ _ | refine blk_drew ?_ | refine blk_alloc ?_ _)); refine blk_far ?_ NB349_367.out _; (with_reducible repeat (first | refine blk_drewN ?_ _ | refine blk_drew ?_ | refine blk_alloc ?_ _)); exact BK349.out) hb); have n1_ := Aside0.mk (blk_below (g := gb354) (o := .cells #[.int .i64 t350, .int .i64 t351, .int .i64 t352] 25 (0, 0)) (by (with_reducible repeat (first | refine blk_drewN ?_ _ | refine blk_drew ?_ | refine blk_alloc ?_ _)); refine blk_far ?_ NB354_367.out _; (with_reducible repeat (first | refine blk_drewN ?_ _ | refine blk_drew ?_ | refine blk_alloc ?_ _)); refine blk_far ?_ NB354_367.out _; (with_reducible repeat (first | refine blk_drewN ?_ _ | refine blk_drew ?_ | refine blk_alloc ?_ _)); refine blk_far ?_ NB354_367.out _; (with_reducible repeat (first | refine blk_drewN ?_ _ | refine blk_drew ?_ | refine blk_alloc ?_ _)); exact BK354.out) hb); have n2_ := Aside0.mk (blk_below (g := gb359) (o := .cells #[.int .i64 t355, .int .i64 t356, .int .i64 t357] 25 (0, 0)) (by (with_reducible repeat (first | refine blk_drewN ?_ _ | refine blk_drew ?_ | refine blk_alloc ?_ _)); refine blk_far ?_ NB359_367.out _; (with_reducible repeat (first | refine blk_drewN ?_ _ | refine blk_drew ?_ | refine blk_alloc ?_ _)); refine blk_far ?_ NB359_367.out _; (with_reducible repeat (first | refine blk_drewN ?_ _ | refine blk_drew ?_ | refine blk_alloc ?_ _)); refine blk_far ?_ NB359_367.out _; (with_reducible repeat (first | refine blk_drewN ?_ _ | refine blk_drew ?_ | refine blk_alloc ?_ _)); exact BK359.out) hb); have n3_ := Aside0.mk (blk_below (g := gb367) (o := .cells #[.int .i64 t363, .int .i64 t364, .int .i64 t365] 25 (0, 0)) (by (with_reducible repeat (first | refine blk_drewN ?_ _ | refine blk_drew ?_ | refine blk_alloc ?_ _)); refine blk_put (cs := #[.int .i64 t363, .int .i64 t364, .int .i64 0]) ?_ 2 _ rfl; (with_reducible repeat (first | refine blk_drewN ?_ _ | refine blk_drew ?_ | refine blk_alloc ?_ _)); refine blk_put (cs := #[.int .i64 t363, .int .i64 0, .int .i64 0]) ?_ 1 _ rfl; (with_reducible repeat (first | refine blk_drewN ?_ _ | refine blk_drew ?_ | refine blk_alloc ?_ _)); refine blk_put (cs := #[.int .i64 0, .int .i64 0, .int .i64 0]) ?_ 0 _ rfl; (with_reducible repeat (first | refine blk_drewN ?_ _ | refine blk_drew ?_ | refine blk_alloc ?_ _)); exact BK367.out) hb); have n4_ := Aside0.mk (below_step (by repeat (first | (with_reducible first | exact HB.out | apply below_alloc | apply pw_below_drewN | apply below_drew1 | refine below_set ?_ GE349.out | refine below_set ?_ GE354.out | refine below_set ?_ GE359.out | refine below_set ?_ GE367.out) | exact HB.out)) hb); clear BK349; clear BK354; clear BK359; clear BK367; clear HB; have BK349 := n0_; have BK354 := n1_; have BK359 := n2_; have BK367 := n3_; have HB := n4_; clear n0_ n1_ n2_ n3_ n4_; (try clear hb); (try clear hb2); (try clear hk); (try clear hi)) | (go_at_call 25; (with_reducible refine (laws_size.calls t360 t369 _ A61.out).mono ?_); rintro e w75 ⟨rfl, hb⟩; have n0_ := Aside0.mk (blk_below (g := gb349) (o := .cells #[.int .i64 t344, .int .i64 t345, .int .i64 t346] 25 (0, 0)) (by (with_reducible repeat (first | refine blk_drewN ?_ _ | refine blk_drew ?_ | refine blk_alloc ?_ _)); exact BK349.out) hb); have n1_ := Aside0.mk (blk_below (g := gb354) (o := .cells #[.int .i64 t350, .int .i64 t351, .int .i64 t352] 25 (0, 0)) (by (with_reducible repeat (first | refine blk_drewN ?_ _ | refine blk_drew ?_ | refine blk_alloc ?_ _)); exact BK354.out) hb); have n2_ := Aside0.mk (blk_below (g := gb359) (o := .cells #[.int .i64 t355, .int .i64 t356, .int .i64 t357] 25 (0, 0)) (by (with_reducible repeat (first | refine blk_drewN ?_ _ | refine blk_drew ?_ | refine blk_alloc ?_ _)); exact BK359.out) hb); have n3_ := Aside0.mk (blk_below (g := gb367) (o := .cells #[.int .i64 t363, .int .i64 t364, .int .i64 t365] 25 (0, 0)) (by (with_reducible repeat (first | refine blk_drewN ?_ _ | refine blk_drew ?_ | refine blk_alloc ?_ _)); exact BK367.out) hb); have n4_ := Aside0.mk (below_step (by repeat (first | (with_reducible first | exact HB.out | apply below_alloc | apply pw_below_drewN | apply below_drew1 | refine below_set ?_ GE349.out | refine below_set ?_ GE354.out | refine below_set ?_ GE359.out | refine below_set ?_ GE367.out) | exact HB.out)) hb); clear BK349; clear BK354; clear BK359; clear BK367; clear HB; have BK349 := n0_; have BK354 := n1_; have BK359 := n2_; have BK367 := n3_; have HB := n4_; clear n0_ n1_ n2_ n3_ n4_; (try clear hb); (try clear hb2); (try clear hk); (try clear hi)))
                go_ret
                exact ⟨by first | rfl | (simp [errW_none, errW_some] <;> rfl) | (simp [*, errW_none, errW_some] <;> rfl), by repeat (first | (with_reducible first | exact HB.out | apply below_alloc | apply pw_below_drewN | apply below_drew1 | refine below_set ?_ GE349.out | refine below_set ?_ GE354.out | refine below_set ?_ GE359.out | refine below_set ?_ GE367.out) | exact HB.out)⟩
              · replace c59 := Bool.eq_false_iff.mpr c59
                subst c59
                have H1 : (some false) = some r := by rw [if_neg (show ¬ (false = true) by decide)] at H; exact H
                clear H
                have H := H1
                clear H1
                obtain rfl := Option.some.inj H
                have hnb76 := NB349_354.out
                have hnc76 := NB354_349.out
                have hnb77 := NB349_359.out
                have hnc77 := NB359_349.out
                have hcz78_0 : wc.cell? ⟨gb349, 0, none⟩ = some (.int .i64 t344) := (blk_cell BK349.out 0).trans rfl
                have hcz78_1 : wc.cell? ⟨gb349, 1, none⟩ = some (.int .i64 t345) := (blk_cell BK349.out 1).trans rfl
                have hcz78_2 : wc.cell? ⟨gb349, 2, none⟩ = some (.int .i64 t346) := (blk_cell BK349.out 2).trans rfl
                have hfz78_0 := blk_frozen BK349.out 0
                have hfz78_1 := blk_frozen BK349.out 1
                have hfz78_2 := blk_frozen BK349.out 2
                go_wp2_with (first | ((with_reducible refine gate_callee (f := 18) rfl ?_); refine goesL_ (some 60) rfl rfl Try.func18 (by kernel_rfl) rfl #[.agg #[.int .i64 t344, .int .i64 t345, .int .i64 t346], .int .i64 t347] rfl (by (try simp only [List.map_toArray, List.map_cons, List.map_nil]); first | done | rfl | (simp only [List.length_drop, List.length_take]; rfl)) ?_; (with_reducible refine (impl_OffsetAt.calls t344 t345 t346 t347 t360 true _ A49.out).mono ?_); rintro e w79 ⟨rfl, hb⟩; refine ⟨_, rfl, ?_⟩; have n0_ := Aside0.mk (blk_below (g := gb349) (o := .cells #[.int .i64 t344, .int .i64 t345, .int .i64 t346] 25 (0, 0)) (by (with_reducible repeat (first | refine blk_drewN ?_ _ | refine blk_drew ?_ | refine blk_alloc ?_ _)); exact BK349.out) hb); have n1_ := Aside0.mk (blk_below (g := gb354) (o := .cells #[.int .i64 t350, .int .i64 t351, .int .i64 t352] 25 (0, 0)) (by (with_reducible repeat (first | refine blk_drewN ?_ _ | refine blk_drew ?_ | refine blk_alloc ?_ _)); exact BK354.out) hb); have n2_ := Aside0.mk (blk_below (g := gb359) (o := .cells #[.int .i64 t355, .int .i64 t356, .int .i64 t357] 25 (0, 0)) (by (with_reducible repeat (first | refine blk_drewN ?_ _ | refine blk_drew ?_ | refine blk_alloc ?_ _)); exact BK359.out) hb); have n3_ := Aside0.mk (below_step (by repeat (first | (with_reducible first | exact HB.out | apply below_alloc | apply pw_below_drewN | apply below_drew1 | refine below_set ?_ GE349.out | refine below_set ?_ GE354.out | refine below_set ?_ GE359.out) | exact HB.out)) hb); clear BK349; clear BK354; clear BK359; clear HB; have BK349 := n0_; have BK354 := n1_; have BK359 := n2_; have HB := n3_; clear n0_ n1_ n2_ n3_; (try clear hb); (try clear hb2); (try clear hk); (try clear hi)) | ((with_reducible refine gate_callee (f := 25) rfl ?_); refine goesL_ (some 64) rfl rfl Try.func25 (by kernel_rfl) rfl #[.int .i64 t360] rfl (by (try simp only [List.map_toArray, List.map_cons, List.map_nil]); first | done | rfl | (simp only [List.length_drop, List.length_take]; rfl)) ?_; (with_reducible refine (laws_size.calls t360 t362 _ A50.out).mono ?_); rintro e w80 ⟨rfl, hb⟩; refine ⟨_, rfl, ?_⟩; have n0_ := Aside0.mk (blk_below (g := gb349) (o := .cells #[.int .i64 t344, .int .i64 t345, .int .i64 t346] 25 (0, 0)) (by (with_reducible repeat (first | refine blk_drewN ?_ _ | refine blk_drew ?_ | refine blk_alloc ?_ _)); exact BK349.out) hb); have n1_ := Aside0.mk (blk_below (g := gb354) (o := .cells #[.int .i64 t350, .int .i64 t351, .int .i64 t352] 25 (0, 0)) (by (with_reducible repeat (first | refine blk_drewN ?_ _ | refine blk_drew ?_ | refine blk_alloc ?_ _)); exact BK354.out) hb); have n2_ := Aside0.mk (blk_below (g := gb359) (o := .cells #[.int .i64 t355, .int .i64 t356, .int .i64 t357] 25 (0, 0)) (by (with_reducible repeat (first | refine blk_drewN ?_ _ | refine blk_drew ?_ | refine blk_alloc ?_ _)); exact BK359.out) hb); have n3_ := Aside0.mk (below_step (by repeat (first | (with_reducible first | exact HB.out | apply below_alloc | apply pw_below_drewN | apply below_drew1 | refine below_set ?_ GE349.out | refine below_set ?_ GE354.out | refine below_set ?_ GE359.out) | exact HB.out)) hb); clear BK349; clear BK354; clear BK359; clear HB; have BK349 := n0_; have BK354 := n1_; have BK359 := n2_; have HB := n3_; clear n0_ n1_ n2_ n3_; (try clear hb); (try clear hb2); (try clear hk); (try clear hi); have hcz81_0 : w80.cell? ⟨gb349, 0, none⟩ = some (.int .i64 t344) := (blk_cell BK349.out 0).trans rfl; have hcz81_1 : w80.cell? ⟨gb349, 1, none⟩ = some (.int .i64 t345) := (blk_cell BK349.out 1).trans rfl; have hcz81_2 : w80.cell? ⟨gb349, 2, none⟩ = some (.int .i64 t346) := (blk_cell BK349.out 2).trans rfl; have hfz81_0 := blk_frozen BK349.out 0; have hfz81_1 := blk_frozen BK349.out 1; have hfz81_2 := blk_frozen BK349.out 2) | ((with_reducible refine gate_callee (f := 22) rfl ?_); refine goesL_ (some 71) rfl rfl Try.func22 (by kernel_rfl) rfl #[.agg #[.int .i64 t344, .int .i64 t345, .int .i64 t346], .int .i64 t347, .int .i64 t360] rfl (by (try simp only [List.map_toArray, List.map_cons, List.map_nil]); first | done | rfl | (simp only [List.length_drop, List.length_take]; rfl)) ?_; (with_reducible refine (impl_StepClock.calls kj5 t344 t345 t346 t347 t360 t363 t364 t365 false _ A57.out).mono ?_); rintro e w82 ⟨rfl, hb⟩; refine ⟨_, rfl, ?_⟩; have n0_ := Aside0.mk (blk_below (g := gb349) (o := .cells #[.int .i64 t344, .int .i64 t345, .int .i64 t346] 25 (0, 0)) (by (with_reducible repeat (first | refine blk_drewN ?_ _ | refine blk_drew ?_ | refine blk_alloc ?_ _)); exact BK349.out) hb); have n1_ := Aside0.mk (blk_below (g := gb354) (o := .cells #[.int .i64 t350, .int .i64 t351, .int .i64 t352] 25 (0, 0)) (by (with_reducible repeat (first | refine blk_drewN ?_ _ | refine blk_drew ?_ | refine blk_alloc ?_ _)); exact BK354.out) hb); have n2_ := Aside0.mk (blk_below (g := gb359) (o := .cells #[.int .i64 t355, .int .i64 t356, .int .i64 t357] 25 (0, 0)) (by (with_reducible repeat (first | refine blk_drewN ?_ _ | refine blk_drew ?_ | refine blk_alloc ?_ _)); exact BK359.out) hb); have n3_ := Aside0.mk (below_step (by repeat (first | (with_reducible first | exact HB.out | apply below_alloc | apply pw_below_drewN | apply below_drew1 | refine below_set ?_ GE349.out | refine below_set ?_ GE354.out | refine below_set ?_ GE359.out) | exact HB.out)) hb); clear BK349; clear BK354; clear BK359; clear HB; have BK349 := n0_; have BK354 := n1_; have BK359 := n2_; have HB := n3_; clear n0_ n1_ n2_ n3_; (try clear hb); (try clear hb2); (try clear hk); (try clear hi)) | ((with_reducible refine gate_dst (N := 12) rfl ?_); refine box_event ?hg (N := 12) ?hd (cs := #[.int .i64 0, .int .i64 0, .int .i64 0]) (t := 25) ?hr ?_; (case hd => rfl); (case hg => rfl); (case hr => first | (go_simp; done) | (go_simp; rfl)); intro gb367 hg w83 hbox hb; have n0_ := Aside0.mk (blk_below (g := gb349) (o := .cells #[.int .i64 t344, .int .i64 t345, .int .i64 t346] 25 (0, 0)) (by (with_reducible repeat (first | refine blk_drewN ?_ _ | refine blk_drew ?_ | refine blk_alloc ?_ _)); exact BK349.out) hb); have n1_ := Aside0.mk (blk_below (g := gb354) (o := .cells #[.int .i64 t350, .int .i64 t351, .int .i64 t352] 25 (0, 0)) (by (with_reducible repeat (first | refine blk_drewN ?_ _ | refine blk_drew ?_ | refine blk_alloc ?_ _)); exact BK354.out) hb); have n2_ := Aside0.mk (blk_below (g := gb359) (o := .cells #[.int .i64 t355, .int .i64 t356, .int .i64 t357] 25 (0, 0)) (by (with_reducible repeat (first | refine blk_drewN ?_ _ | refine blk_drew ?_ | refine blk_alloc ?_ _)); exact BK359.out) hb); have n3_ := Aside0.mk (below_step (by repeat (first | (with_reducible first | exact HB.out | apply below_alloc | apply pw_below_drewN | apply below_drew1 | refine below_set ?_ GE349.out | refine below_set ?_ GE354.out | refine below_set ?_ GE359.out) | exact HB.out)) hb); have n4_ := Aside0.mk (hbox); have n5_ := Aside0.mk ((by rw [hg]; exact (below_size (by repeat (first | (with_reducible first | exact HB.out | apply below_alloc | apply pw_below_drewN | apply below_drew1 | refine below_set ?_ GE349.out | refine below_set ?_ GE354.out | refine below_set ?_ GE359.out) | exact HB.out))) : w.heap.size ≤ gb367)); have n6_ := Aside0.mk ((by rw [hg]; exact (below_size (by repeat (first | (with_reducible first | exact HB.out | apply below_alloc | apply pw_below_drewN | apply below_drew1 | refine below_set ?_ GE349.out | refine below_set ?_ GE354.out | refine below_set ?_ GE359.out) | exact HB.out))) : w.heap.size ≤ gb367)); have n7_ := Aside0.mk ((by rw [hg]; exact Nat.ne_of_lt (blk_lt (g := gb349) (o := .cells #[.int .i64 t344, .int .i64 t345, .int .i64 t346] 25 (0, 0)) (by (with_reducible repeat (first | refine blk_drewN ?_ _ | refine blk_drew ?_ | refine blk_alloc ?_ _)); exact BK349.out)) : gb349 ≠ gb367)); have n8_ := Aside0.mk ((by rw [hg]; exact Nat.ne_of_gt (blk_lt (g := gb349) (o := .cells #[.int .i64 t344, .int .i64 t345, .int .i64 t346] 25 (0, 0)) (by (with_reducible repeat (first | refine blk_drewN ?_ _ | refine blk_drew ?_ | refine blk_alloc ?_ _)); exact BK349.out)) : gb367 ≠ gb349)); have n9_ := Aside0.mk ((by rw [hg]; exact Nat.ne_of_lt (blk_lt (g := gb354) (o := .cells #[.int .i64 t350, .int .i64 t351, .int .i64 t352] 25 (0, 0)) (by (with_reducible repeat (first | refine blk_drewN ?_ _ | refine blk_drew ?_ | refine blk_alloc ?_ _)); exact BK354.out)) : gb354 ≠ gb367)); have n10_ := Aside0.mk ((by rw [hg]; exact Nat.ne_of_gt (blk_lt (g := gb354) (o := .cells #[.int .i64 t350, .int .i64 t351, .int .i64 t352] 25 (0, 0)) (by (with_reducible repeat (first | refine blk_drewN ?_ _ | refine blk_drew ?_ | refine blk_alloc ?_ _)); exact BK354.out)) : gb367 ≠ gb354)); have n11_ := Aside0.mk ((by rw [hg]; exact Nat.ne_of_lt (blk_lt (g := gb359) (o := .cells #[.int .i64 t355, .int .i64 t356, .int .i64 t357] 25 (0, 0)) (by (with_reducible repeat (first | refine blk_drewN ?_ _ | refine blk_drew ?_ | refine blk_alloc ?_ _)); exact BK359.out)) : gb359 ≠ gb367)); have n12_ := Aside0.mk ((by rw [hg]; exact Nat.ne_of_gt (blk_lt (g := gb359) (o := .cells #[.int .i64 t355, .int .i64 t356, .int .i64 t357] 25 (0, 0)) (by (with_reducible repeat (first | refine blk_drewN ?_ _ | refine blk_drew ?_ | refine blk_alloc ?_ _)); exact BK359.out)) : gb367 ≠ gb359)); clear BK349; clear BK354; clear BK359; clear HB; have BK349 := n0_; have BK354 := n1_; have BK359 := n2_; have HB := n3_; have BK367 := n4_; have GW367 := n5_; have GE367 := n6_; have NB349_367 := n7_; have NB367_349 := n8_; have NB354_367 := n9_; have NB367_354 := n10_; have NB359_367 := n11_; have NB367_359 := n12_; clear n0_ n1_ n2_ n3_ n4_ n5_ n6_ n7_ n8_ n9_ n10_ n11_ n12_; clear hb hbox hg; have hnb84 := NB367_349.out; have hnc84 := NB349_367.out; have hnb85 := NB367_354.out; have hnc85 := NB354_367.out; have hnb86 := NB367_359.out; have hnc86 := NB359_367.out; have hcz87_0 : w83.cell? ⟨gb367, 0, none⟩ = some (.int .i64 0) := (blk_cell BK367.out 0).trans rfl; have hcz87_1 : w83.cell? ⟨gb367, 1, none⟩ = some (.int .i64 0) := (blk_cell BK367.out 1).trans rfl; have hcz87_2 : w83.cell? ⟨gb367, 2, none⟩ = some (.int .i64 0) := (blk_cell BK367.out 2).trans rfl; have hfz87_0 := blk_frozen BK367.out 0; have hfz87_1 := blk_frozen BK367.out 1; have hfz87_2 := blk_frozen BK367.out 2))
                go_ret
                exact ⟨by first | rfl | (simp [errW_none, errW_some] <;> rfl) | (simp [*, errW_none, errW_some] <;> rfl), by repeat (first | (with_reducible first | exact HB.out | apply below_alloc | apply pw_below_drewN | apply below_drew1 | refine below_set ?_ GE349.out | refine below_set ?_ GE354.out | refine below_set ?_ GE359.out | refine below_set ?_ GE367.out) | exact HB.out)⟩
            · replace c58 := Bool.eq_false_iff.mpr c58
              subst c58
              have H1 : (some false) = some r := by rw [if_neg (show ¬ (false = true) by decide)] at H; exact H
              clear H
              have H := H1
              clear H1
              obtain rfl := Option.some.inj H
              have hnb88 := NB349_354.out
              have hnc88 := NB354_349.out
              have hnb89 := NB349_359.out
              have hnc89 := NB359_349.out
              have hcz90_0 : wc.cell? ⟨gb349, 0, none⟩ = some (.int .i64 t344) := (blk_cell BK349.out 0).trans rfl
              have hcz90_1 : wc.cell? ⟨gb349, 1, none⟩ = some (.int .i64 t345) := (blk_cell BK349.out 1).trans rfl
              have hcz90_2 : wc.cell? ⟨gb349, 2, none⟩ = some (.int .i64 t346) := (blk_cell BK349.out 2).trans rfl
              have hfz90_0 := blk_frozen BK349.out 0
              have hfz90_1 := blk_frozen BK349.out 1
              have hfz90_2 := blk_frozen BK349.out 2
              go_wp2_with (first | ((with_reducible refine gate_callee (f := 18) rfl ?_); refine goesL_ (some 60) rfl rfl Try.func18 (by kernel_rfl) rfl #[.agg #[.int .i64 t344, .int .i64 t345, .int .i64 t346], .int .i64 t347] rfl (by (try simp only [List.map_toArray, List.map_cons, List.map_nil]); first | done | rfl | (simp only [List.length_drop, List.length_take]; rfl)) ?_; (with_reducible refine (impl_OffsetAt.calls t344 t345 t346 t347 t360 false _ A49.out).mono ?_); rintro e w91 ⟨rfl, hb⟩; refine ⟨_, rfl, ?_⟩; have n0_ := Aside0.mk (blk_below (g := gb349) (o := .cells #[.int .i64 t344, .int .i64 t345, .int .i64 t346] 25 (0, 0)) (by (with_reducible repeat (first | refine blk_drewN ?_ _ | refine blk_drew ?_ | refine blk_alloc ?_ _)); exact BK349.out) hb); have n1_ := Aside0.mk (blk_below (g := gb354) (o := .cells #[.int .i64 t350, .int .i64 t351, .int .i64 t352] 25 (0, 0)) (by (with_reducible repeat (first | refine blk_drewN ?_ _ | refine blk_drew ?_ | refine blk_alloc ?_ _)); exact BK354.out) hb); have n2_ := Aside0.mk (blk_below (g := gb359) (o := .cells #[.int .i64 t355, .int .i64 t356, .int .i64 t357] 25 (0, 0)) (by (with_reducible repeat (first | refine blk_drewN ?_ _ | refine blk_drew ?_ | refine blk_alloc ?_ _)); exact BK359.out) hb); have n3_ := Aside0.mk (below_step (by repeat (first | (with_reducible first | exact HB.out | apply below_alloc | apply pw_below_drewN | apply below_drew1 | refine below_set ?_ GE349.out | refine below_set ?_ GE354.out | refine below_set ?_ GE359.out) | exact HB.out)) hb); clear BK349; clear BK354; clear BK359; clear HB; have BK349 := n0_; have BK354 := n1_; have BK359 := n2_; have HB := n3_; clear n0_ n1_ n2_ n3_; (try clear hb); (try clear hb2); (try clear hk); (try clear hi)) | ((with_reducible refine gate_callee (f := 25) rfl ?_); refine goesL_ (some 64) rfl rfl Try.func25 (by kernel_rfl) rfl #[.int .i64 t360] rfl (by (try simp only [List.map_toArray, List.map_cons, List.map_nil]); first | done | rfl | (simp only [List.length_drop, List.length_take]; rfl)) ?_; (with_reducible refine (laws_size.calls t360 t362 _ A50.out).mono ?_); rintro e w92 ⟨rfl, hb⟩; refine ⟨_, rfl, ?_⟩; have n0_ := Aside0.mk (blk_below (g := gb349) (o := .cells #[.int .i64 t344, .int .i64 t345, .int .i64 t346] 25 (0, 0)) (by (with_reducible repeat (first | refine blk_drewN ?_ _ | refine blk_drew ?_ | refine blk_alloc ?_ _)); exact BK349.out) hb); have n1_ := Aside0.mk (blk_below (g := gb354) (o := .cells #[.int .i64 t350, .int .i64 t351, .int .i64 t352] 25 (0, 0)) (by (with_reducible repeat (first | refine blk_drewN ?_ _ | refine blk_drew ?_ | refine blk_alloc ?_ _)); exact BK354.out) hb); have n2_ := Aside0.mk (blk_below (g := gb359) (o := .cells #[.int .i64 t355, .int .i64 t356, .int .i64 t357] 25 (0, 0)) (by (with_reducible repeat (first | refine blk_drewN ?_ _ | refine blk_drew ?_ | refine blk_alloc ?_ _)); exact BK359.out) hb); have n3_ := Aside0.mk (below_step (by repeat (first | (with_reducible first | exact HB.out | apply below_alloc | apply pw_below_drewN | apply below_drew1 | refine below_set ?_ GE349.out | refine below_set ?_ GE354.out | refine below_set ?_ GE359.out) | exact HB.out)) hb); clear BK349; clear BK354; clear BK359; clear HB; have BK349 := n0_; have BK354 := n1_; have BK359 := n2_; have HB := n3_; clear n0_ n1_ n2_ n3_; (try clear hb); (try clear hb2); (try clear hk); (try clear hi); have hcz93_0 : w92.cell? ⟨gb349, 0, none⟩ = some (.int .i64 t344) := (blk_cell BK349.out 0).trans rfl; have hcz93_1 : w92.cell? ⟨gb349, 1, none⟩ = some (.int .i64 t345) := (blk_cell BK349.out 1).trans rfl; have hcz93_2 : w92.cell? ⟨gb349, 2, none⟩ = some (.int .i64 t346) := (blk_cell BK349.out 2).trans rfl; have hfz93_0 := blk_frozen BK349.out 0; have hfz93_1 := blk_frozen BK349.out 1; have hfz93_2 := blk_frozen BK349.out 2) | ((with_reducible refine gate_callee (f := 22) rfl ?_); refine goesL_ (some 71) rfl rfl Try.func22 (by kernel_rfl) rfl #[.agg #[.int .i64 t344, .int .i64 t345, .int .i64 t346], .int .i64 t347, .int .i64 t360] rfl (by (try simp only [List.map_toArray, List.map_cons, List.map_nil]); first | done | rfl | (simp only [List.length_drop, List.length_take]; rfl)) ?_; (with_reducible refine (impl_StepClock.calls kj5 t344 t345 t346 t347 t360 t363 t364 t365 t366 _ A57.out).mono ?_); rintro e w94 ⟨rfl, hb⟩; refine ⟨_, rfl, ?_⟩; have n0_ := Aside0.mk (blk_below (g := gb349) (o := .cells #[.int .i64 t344, .int .i64 t345, .int .i64 t346] 25 (0, 0)) (by (with_reducible repeat (first | refine blk_drewN ?_ _ | refine blk_drew ?_ | refine blk_alloc ?_ _)); exact BK349.out) hb); have n1_ := Aside0.mk (blk_below (g := gb354) (o := .cells #[.int .i64 t350, .int .i64 t351, .int .i64 t352] 25 (0, 0)) (by (with_reducible repeat (first | refine blk_drewN ?_ _ | refine blk_drew ?_ | refine blk_alloc ?_ _)); exact BK354.out) hb); have n2_ := Aside0.mk (blk_below (g := gb359) (o := .cells #[.int .i64 t355, .int .i64 t356, .int .i64 t357] 25 (0, 0)) (by (with_reducible repeat (first | refine blk_drewN ?_ _ | refine blk_drew ?_ | refine blk_alloc ?_ _)); exact BK359.out) hb); have n3_ := Aside0.mk (below_step (by repeat (first | (with_reducible first | exact HB.out | apply below_alloc | apply pw_below_drewN | apply below_drew1 | refine below_set ?_ GE349.out | refine below_set ?_ GE354.out | refine below_set ?_ GE359.out) | exact HB.out)) hb); clear BK349; clear BK354; clear BK359; clear HB; have BK349 := n0_; have BK354 := n1_; have BK359 := n2_; have HB := n3_; clear n0_ n1_ n2_ n3_; (try clear hb); (try clear hb2); (try clear hk); (try clear hi)) | ((with_reducible refine gate_dst (N := 12) rfl ?_); refine box_event ?hg (N := 12) ?hd (cs := #[.int .i64 0, .int .i64 0, .int .i64 0]) (t := 25) ?hr ?_; (case hd => rfl); (case hg => rfl); (case hr => first | (go_simp; done) | (go_simp; rfl)); intro gb367 hg w95 hbox hb; have n0_ := Aside0.mk (blk_below (g := gb349) (o := .cells #[.int .i64 t344, .int .i64 t345, .int .i64 t346] 25 (0, 0)) (by (with_reducible repeat (first | refine blk_drewN ?_ _ | refine blk_drew ?_ | refine blk_alloc ?_ _)); exact BK349.out) hb); have n1_ := Aside0.mk (blk_below (g := gb354) (o := .cells #[.int .i64 t350, .int .i64 t351, .int .i64 t352] 25 (0, 0)) (by (with_reducible repeat (first | refine blk_drewN ?_ _ | refine blk_drew ?_ | refine blk_alloc ?_ _)); exact BK354.out) hb); have n2_ := Aside0.mk (blk_below (g := gb359) (o := .cells #[.int .i64 t355, .int .i64 t356, .int .i64 t357] 25 (0, 0)) (by (with_reducible repeat (first | refine blk_drewN ?_ _ | refine blk_drew ?_ | refine blk_alloc ?_ _)); exact BK359.out) hb); have n3_ := Aside0.mk (below_step (by repeat (first | (with_reducible first | exact HB.out | apply below_alloc | apply pw_below_drewN | apply below_drew1 | refine below_set ?_ GE349.out | refine below_set ?_ GE354.out | refine below_set ?_ GE359.out) | exact HB.out)) hb); have n4_ := Aside0.mk (hbox); have n5_ := Aside0.mk ((by rw [hg]; exact (below_size (by repeat (first | (with_reducible first | exact HB.out | apply below_alloc | apply pw_below_drewN | apply below_drew1 | refine below_set ?_ GE349.out | refine below_set ?_ GE354.out | refine below_set ?_ GE359.out) | exact HB.out))) : w.heap.size ≤ gb367)); have n6_ := Aside0.mk ((by rw [hg]; exact (below_size (by repeat (first | (with_reducible first | exact HB.out | apply below_alloc | apply pw_below_drewN | apply below_drew1 | refine below_set ?_ GE349.out | refine below_set ?_ GE354.out | refine below_set ?_ GE359.out) | exact HB.out))) : w.heap.size ≤ gb367)); have n7_ := Aside0.mk ((by rw [hg]; exact Nat.ne_of_lt (blk_lt (g := gb349) (o := .cells #[.int .i64 t344, .int .i64 t345, .int .i64 t346] 25 (0, 0)) (by (with_reducible repeat (first | refine blk_drewN ?_ _ | refine blk_drew ?_ | refine blk_alloc ?_ _)); exact BK349.out)) : gb349 ≠ gb367)); have n8_ := Aside0.mk ((by rw [hg]; exact Nat.ne_of_gt (blk_lt (g := gb349) (o := .cells #[.int .i64 t344, .int .i64 t345, .int .i64 t346] 25 (0, 0)) (by (with_reducible repeat (first | refine blk_drewN ?_ _ | refine blk_drew ?_ | refine blk_alloc ?_ _)); exact BK349.out)) : gb367 ≠ gb349)); have n9_ := Aside0.mk ((by rw [hg]; exact Nat.ne_of_lt (blk_lt (g := gb354) (o := .cells #[.int .i64 t350, .int .i64 t351, .int .i64 t352] 25 (0, 0)) (by (with_reducible repeat (first | refine blk_drewN ?_ _ | refine blk_drew ?_ | refine blk_alloc ?_ _)); exact BK354.out)) : gb354 ≠ gb367)); have n10_ := Aside0.mk ((by rw [hg]; exact Nat.ne_of_gt (blk_lt (g := gb354) (o := .cells #[.int .i64 t350, .int .i64 t351, .int .i64 t352] 25 (0, 0)) (by (with_reducible repeat (first | refine blk_drewN ?_ _ | refine blk_drew ?_ | refine blk_alloc ?_ _)); exact BK354.out)) : gb367 ≠ gb354)); have n11_ := Aside0.mk ((by rw [hg]; exact Nat.ne_of_lt (blk_lt (g := gb359) (o := .cells #[.int .i64 t355, .int .i64 t356, .int .i64 t357] 25 (0, 0)) (by (with_reducible repeat (first | refine blk_drewN ?_ _ | refine blk_drew ?_ | refine blk_alloc ?_ _)); exact BK359.out)) : gb359 ≠ gb367)); have n12_ := Aside0.mk ((by rw [hg]; exact Nat.ne_of_gt (blk_lt (g := gb359) (o := .cells #[.int .i64 t355, .int .i64 t356, .int .i64 t357] 25 (0, 0)) (by (with_reducible repeat (first | refine blk_drewN ?_ _ | refine blk_drew ?_ | refine blk_alloc ?_ _)); exact BK359.out)) : gb367 ≠ gb359)); clear BK349; clear BK354; clear BK359; clear HB; have BK349 := n0_; have BK354 := n1_; have BK359 := n2_; have HB := n3_; have BK367 := n4_; have GW367 := n5_; have GE367 := n6_; have NB349_367 := n7_; have NB367_349 := n8_; have NB354_367 := n9_; have NB367_354 := n10_; have NB359_367 := n11_; have NB367_359 := n12_; clear n0_ n1_ n2_ n3_ n4_ n5_ n6_ n7_ n8_ n9_ n10_ n11_ n12_; clear hb hbox hg; have hnb96 := NB367_349.out; have hnc96 := NB349_367.out; have hnb97 := NB367_354.out; have hnc97 := NB354_367.out; have hnb98 := NB367_359.out; have hnc98 := NB359_367.out; have hcz99_0 : w95.cell? ⟨gb367, 0, none⟩ = some (.int .i64 0) := (blk_cell BK367.out 0).trans rfl; have hcz99_1 : w95.cell? ⟨gb367, 1, none⟩ = some (.int .i64 0) := (blk_cell BK367.out 1).trans rfl; have hcz99_2 : w95.cell? ⟨gb367, 2, none⟩ = some (.int .i64 0) := (blk_cell BK367.out 2).trans rfl; have hfz99_0 := blk_frozen BK367.out 0; have hfz99_1 := blk_frozen BK367.out 1; have hfz99_2 := blk_frozen BK367.out 2))
              go_ret
              exact ⟨by first | rfl | (simp [errW_none, errW_some] <;> rfl) | (simp [*, errW_none, errW_some] <;> rfl), by repeat (first | (with_reducible first | exact HB.out | apply below_alloc | apply pw_below_drewN | apply below_drew1 | refine below_set ?_ GE349.out | refine below_set ?_ GE354.out | refine below_set ?_ GE359.out | refine below_set ?_ GE367.out) | exact HB.out)⟩

/-- THE ONE PURE STATEMENT of laws_FnStepClockRepeat: yours. -/
def laws_FnStepClockRepeat.Pure : Prop := ∀ (l0 : List Int), l0.length ≤ maxLen → l0.length * 1 ≤ 140737488351232 → (∀ x ∈ l0, (Lit.int .u8 x).wf = true) → ∃ k, laws_FnStepClockRepeat.f k l0 = some true
theorem laws_FnStepClockRepeat.walk (P : laws_FnStepClockRepeat.Pure) (a0 : Option Addr) (len0 cap0 : Nat) (z0 : List Int) (w : World) (w0 : (a0 = none ∧ len0 = 0 ∧ cap0 = 0 ∧ z0 = []) ∨ ∃ x, a0 = some x ∧ len0 ≤ cap0 ∧ cap0 ≤ maxLen ∧ z0.length = cap0 ∧ (∀ i, i < z0.length → w.cell? (x.add i) = some (.int .u8 (z0.getD i 0))) ∧ ∀ n ∈ z0, (Lit.int .u8 n).wf = true) (y0 : len0 * 1 ≤ 140737488351232) :
    Calls Try.prog 13 #[.slice a0 len0 cap0] w fun e w' => e = .returned (.bool true) ∧ Below w.heap.size w w' := by
  obtain ⟨l0, rfl, hr0, hm0, hw0, hc0⟩ := ReadsInt.ofRowC w0
  obtain ⟨k, h⟩ := P l0 hm0 y0 hw0
  refine (laws_FnStepClockRepeat.calls k _ _ l0 true w (Kd.C_of_reads (d := (0 : Int)) (h1 := fun _ => rfl) hr0) hc0 h).mono ?_
  rintro e w' ⟨rfl, hd⟩
  exact ⟨rfl, hd⟩

end Go.Proofs.Ytedmfipncmkfcaa.PAll
