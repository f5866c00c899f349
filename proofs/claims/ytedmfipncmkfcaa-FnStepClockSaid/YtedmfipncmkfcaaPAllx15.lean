-- Written by a program of this session (pmore.py, over the kit's print)
import Derived.Test.YtedmfipncmkfcaaPAllx0
import Derived.Test.YtedmfipncmkfcaaPAllx1
import Derived.Test.YtedmfipncmkfcaaPAllx3
import Derived.Test.YtedmfipncmkfcaaPAllx5
import Derived.Test.YtedmfipncmkfcaaPAllx6
import Derived.Test.YtedmfipncmkfcaaPAllx14
namespace Go.Proofs.Ytedmfipncmkfcaa.PAll
open Go.RowKit Go.Proofs.YtedmfipncmkfcaaW.PrintWords Go.Proofs.YtedmfipncmkfcaaW.PrintLast Go.Proofs.YtedmfipncmkfcaaW.PrintMore
attribute [local go_sem] max2_int min2_int max_two min_two max_three min_three max_four min_four   -- for this text's walks alone
set_option linter.unusedVariables false
set_option linter.unusedSimpArgs false

attribute [local go_sem high] eqA25
/-! ### laws_FnStepClock: function 11 -/
def laws_FnStepClock.j0 : Nat → Int → Int → Bool → Bool → Bool → Int → Int → Int → Int → Int → Int → Int → Int → Int → Option (Bool)
  | 0, _, _, _, _, _, _, _, _, _, _, _, _, _, _ => none
  | k + 1, x4, x5, x7, x9, x46, x310000, x310001, x310002, x315000, x315001, x315002, x320000, x320001, x320002 => if x46 = true then (if (x315000 == x320000 && (x315001 == x320001 && (x315002 == x320002))) = true then (some (x7 == x9)) else (some false)) else ((impl_OffsetAt.f x310000 x310001 x310002 x4).bind fun bt320 => ((laws_size.f x5).bind fun t322 => (if t322 > 128000 then (if bt320.2 = true then (if x315001 = x310001 then (if x315000 = (mx (-1000000) (mn 1000000 (wrap64 (bt320.1 - x5)))) then (some (x315002 == x4)) else (some false)) else (some false)) else (some false)) else (if bt320.2 = true then (if x315002 = x4 then ((laws_size.f (wrap64 (bt320.1 - x315000))).bind fun t323 => ((laws_size.f x5).bind fun t324 => (if t323 ≤ (wrap64 ((wrap64 (Int.tdiv t324 4)) + 1)) then (some true) else ((laws_size.f bt320.1).bind fun t325 => (some (decide (t325 > 1000000))))))) else ((laws_size.f bt320.1).bind fun t326 => (some (decide (t326 > 1000000))))) else (some false)))))
def laws_FnStepClock.f (k : Nat) (l0 : List Int) : Option (Bool) := if (l0.length : Int) > 1048576 then (some true) else ((spec_DrawStepClock.f k l0).bind fun bt304 => ((impl_StepClock.f k bt304.1 bt304.2.1 bt304.2.2.1 bt304.2.2.2.1 bt304.2.2.2.2).bind fun bt310 => ((spec_StepClock.f k bt304.1 bt304.2.1 bt304.2.2.1 bt304.2.2.2.1 bt304.2.2.2.2).bind fun bt315 => (if (!(bt310.1 == bt315.1) || (!(bt310.2.1 == bt315.2.1) || (!(bt310.2.2.1 == bt315.2.2.1)))) = true then (laws_FnStepClock.j0 k bt304.2.2.2.1 bt304.2.2.2.2 bt310.2.2.2 bt315.2.2.2 true bt304.1 bt304.2.1 bt304.2.2.1 bt310.1 bt310.2.1 bt310.2.2.1 bt315.1 bt315.2.1 bt315.2.2.1) else (if (bt310.2.2.2 != bt315.2.2.2) = true then (laws_FnStepClock.j0 k bt304.2.2.2.1 bt304.2.2.2.2 bt310.2.2.2 bt315.2.2.2 true bt304.1 bt304.2.1 bt304.2.2.1 bt310.1 bt310.2.1 bt310.2.2.1 bt315.1 bt315.2.1 bt315.2.2.1) else (laws_FnStepClock.j0 k bt304.2.2.2.1 bt304.2.2.2.2 bt310.2.2.2 bt315.2.2.2 (!bt310.2.2.2) bt304.1 bt304.2.1 bt304.2.2.1 bt310.1 bt310.2.1 bt310.2.2.1 bt315.1 bt315.2.1 bt315.2.2.1))))))
theorem laws_FnStepClock.mono_l : ∀ k, (∀ y0 y1 y2 y3 y4 y5 y6 y7 y8 y9 y10 y11 y12 y13, LeO (laws_FnStepClock.j0 k y0 y1 y2 y3 y4 y5 y6 y7 y8 y9 y10 y11 y12 y13) (laws_FnStepClock.j0 (k + 1) y0 y1 y2 y3 y4 y5 y6 y7 y8 y9 y10 y11 y12 y13))
  | 0 => fun _ _ _ _ _ _ _ _ _ _ _ _ _ _ r h => by simp [laws_FnStepClock.j0] at h
  | k + 1 => by
    have ih0 := laws_FnStepClock.mono_l k
    · intro y0 y1 y2 y3 y4 y5 y6 y7 y8 y9 y10 y11 y12 y13
      unfold laws_FnStepClock.j0
      repeat' first
      | (with_reducible exact ih0 _ _ _ _ _ _ _ _ _ _ _ _ _ _)
      | (with_reducible exact impl_StepClock.mono _ _ _ _ _ _)
      | (with_reducible exact spec_DrawStepClock.mono _ _)
      | (with_reducible exact spec_StepClock.mono _ _ _ _ _ _)
      | (with_reducible exact LeO.refl _)
      | (with_reducible exact LeO.none _)
      | (with_reducible refine LeO.ite ?_ ?_)
      | (with_reducible refine LeO.bind ?_ (fun _ => ?_))
      | exact ih0 _ _ _ _ _ _ _ _ _ _ _ _ _ _
      | exact impl_StepClock.mono _ _ _ _ _ _
      | exact spec_DrawStepClock.mono _ _
      | exact spec_StepClock.mono _ _ _ _ _ _
      | exact LeO.none _
      | refine LeO.ite ?_ ?_
      | refine LeO.bind ?_ (fun _ => ?_)
theorem laws_FnStepClock.mono : ∀ a0 k, LeO (laws_FnStepClock.f k a0) (laws_FnStepClock.f (k + 1) a0) := by
  intro a0 k
  have ih0 := laws_FnStepClock.mono_l k
  unfold laws_FnStepClock.f
  repeat' first
      | (with_reducible exact ih0 _ _ _ _ _ _ _ _ _ _ _ _ _ _)
      | (with_reducible exact impl_StepClock.mono _ _ _ _ _ _)
      | (with_reducible exact spec_DrawStepClock.mono _ _)
      | (with_reducible exact spec_StepClock.mono _ _ _ _ _ _)
      | (with_reducible exact LeO.refl _)
      | (with_reducible exact LeO.none _)
      | (with_reducible refine LeO.ite ?_ ?_)
      | (with_reducible refine LeO.bind ?_ (fun _ => ?_))
      | exact ih0 _ _ _ _ _ _ _ _ _ _ _ _ _ _
      | exact impl_StepClock.mono _ _ _ _ _ _
      | exact spec_DrawStepClock.mono _ _
      | exact spec_StepClock.mono _ _ _ _ _ _
      | exact LeO.none _
      | refine LeO.ite ?_ ?_
      | refine LeO.bind ?_ (fun _ => ?_)
set_option maxHeartbeats 8000000 in
set_option maxRecDepth 100000 in
theorem laws_FnStepClock.calls (k : Nat) (A0 : Option Addr) (c0 : Nat) (l0 : List Int) (r : Bool) (w : World) (hr0 : Kd.C (Kd.int .u8) w A0 l0.length l0) (hc0 : l0.length ≤ c0) (h : laws_FnStepClock.f k l0 = some r) :
    Calls Try.prog 11 #[.slice A0 l0.length c0] w fun e w' => e = .returned (.bool r) ∧ Below w.heap.size w w' := by
  have hu25 := Try.underlying25
  have HR0 := Aside0.mk hr0
  have HC0 := Aside0.mk hc0
  clear hr0 hc0
  have HB := Aside0.mk (Below.refl w.heap.size w)
  have H : (if (l0.length : Int) > 1048576 then (some true) else ((spec_DrawStepClock.f k l0).bind fun bt304 => ((impl_StepClock.f k bt304.1 bt304.2.1 bt304.2.2.1 bt304.2.2.2.1 bt304.2.2.2.2).bind fun bt310 => ((spec_StepClock.f k bt304.1 bt304.2.1 bt304.2.2.1 bt304.2.2.2.1 bt304.2.2.2.2).bind fun bt315 => (if (!(bt310.1 == bt315.1) || (!(bt310.2.1 == bt315.2.1) || (!(bt310.2.2.1 == bt315.2.2.1)))) = true then (laws_FnStepClock.j0 k bt304.2.2.2.1 bt304.2.2.2.2 bt310.2.2.2 bt315.2.2.2 true bt304.1 bt304.2.1 bt304.2.2.1 bt310.1 bt310.2.1 bt310.2.2.1 bt315.1 bt315.2.1 bt315.2.2.1) else (if (bt310.2.2.2 != bt315.2.2.2) = true then (laws_FnStepClock.j0 k bt304.2.2.2.1 bt304.2.2.2.2 bt310.2.2.2 bt315.2.2.2 true bt304.1 bt304.2.1 bt304.2.2.1 bt310.1 bt310.2.1 bt310.2.2.1 bt315.1 bt315.2.1 bt315.2.2.1) else (laws_FnStepClock.j0 k bt304.2.2.2.1 bt304.2.2.2.2 bt310.2.2.2 bt315.2.2.2 (!bt310.2.2.2) bt304.1 bt304.2.1 bt304.2.2.1 bt310.1 bt310.2.1 bt310.2.2.1 bt315.1 bt315.2.1 bt315.2.2.1))))))) = some r := h
  clear h
  by_cases c2 : (l0.length : Int) > 1048576
  · rw [if_pos c2] at H
    have c2b0 : decide (1048576 < (l0.length : Int)) = true := decide_eq_true c2
    have c2b1 : decide (1048576 < l0.length) = true := decide_eq_true (by omega)
    clear c2
    obtain rfl := Option.some.inj H
    go_enter Try.func11, Try.ntmps11
    go_wp2
    go_ret
    exact ⟨by first | rfl | (simp [errW_none, errW_some] <;> rfl) | (simp [*, errW_none, errW_some] <;> rfl), by repeat (first | (with_reducible first | exact HB.out | apply below_alloc | apply pw_below_drewN | apply below_drew1) | exact HB.out)⟩
  · rw [if_neg c2] at H
    have c2b0 : decide (1048576 < (l0.length : Int)) = false := decide_eq_false c2
    have c2b1 : decide (1048576 < l0.length) = false := decide_eq_false (by omega)
    clear c2
    replace H := Option.bind_eq_some_iff.mp H
    obtain ⟨⟨t304, t305, t306, t307, t308⟩, A30, H⟩ := H
    replace H : ((impl_StepClock.f k t304 t305 t306 t307 t308).bind fun bt310 => ((spec_StepClock.f k t304 t305 t306 t307 t308).bind fun bt315 => (if (!(bt310.1 == bt315.1) || (!(bt310.2.1 == bt315.2.1) || (!(bt310.2.2.1 == bt315.2.2.1)))) = true then (laws_FnStepClock.j0 k t307 t308 bt310.2.2.2 bt315.2.2.2 true t304 t305 t306 bt310.1 bt310.2.1 bt310.2.2.1 bt315.1 bt315.2.1 bt315.2.2.1) else (if (bt310.2.2.2 != bt315.2.2.2) = true then (laws_FnStepClock.j0 k t307 t308 bt310.2.2.2 bt315.2.2.2 true t304 t305 t306 bt310.1 bt310.2.1 bt310.2.2.1 bt315.1 bt315.2.1 bt315.2.2.1) else (laws_FnStepClock.j0 k t307 t308 bt310.2.2.2 bt315.2.2.2 (!bt310.2.2.2) t304 t305 t306 bt310.1 bt310.2.1 bt310.2.2.1 bt315.1 bt315.2.1 bt315.2.2.1))))) = some r := H
    have A3 := Aside0.mk A30
    clear A30
    replace H := Option.bind_eq_some_iff.mp H
    obtain ⟨⟨t310, t311, t312, t313⟩, A40, H⟩ := H
    replace H : ((spec_StepClock.f k t304 t305 t306 t307 t308).bind fun bt315 => (if (!(t310 == bt315.1) || (!(t311 == bt315.2.1) || (!(t312 == bt315.2.2.1)))) = true then (laws_FnStepClock.j0 k t307 t308 t313 bt315.2.2.2 true t304 t305 t306 t310 t311 t312 bt315.1 bt315.2.1 bt315.2.2.1) else (if (t313 != bt315.2.2.2) = true then (laws_FnStepClock.j0 k t307 t308 t313 bt315.2.2.2 true t304 t305 t306 t310 t311 t312 bt315.1 bt315.2.1 bt315.2.2.1) else (laws_FnStepClock.j0 k t307 t308 t313 bt315.2.2.2 (!t313) t304 t305 t306 t310 t311 t312 bt315.1 bt315.2.1 bt315.2.2.1)))) = some r := H
    have A4 := Aside0.mk A40
    clear A40
    replace H := Option.bind_eq_some_iff.mp H
    obtain ⟨⟨t315, t316, t317, t318⟩, A50, H⟩ := H
    replace H : (if (!(t310 == t315) || (!(t311 == t316) || (!(t312 == t317)))) = true then (laws_FnStepClock.j0 k t307 t308 t313 t318 true t304 t305 t306 t310 t311 t312 t315 t316 t317) else (if (t313 != t318) = true then (laws_FnStepClock.j0 k t307 t308 t313 t318 true t304 t305 t306 t310 t311 t312 t315 t316 t317) else (laws_FnStepClock.j0 k t307 t308 t313 t318 (!t313) t304 t305 t306 t310 t311 t312 t315 t316 t317))) = some r := H
    have A5 := Aside0.mk A50
    clear A50
    have HC6 := Aside0.mk H
    clear H
    go_enter Try.func11, Try.ntmps11
    go_upto_region 6 with (first | ((with_reducible refine gate_callee (f := 24) rfl ?_); refine goesL_ (some 17) rfl rfl Try.func24 (by kernel_rfl) rfl #[.slice A0 l0.length c0] rfl (by (try simp only [List.map_toArray, List.map_cons, List.map_nil]); first | done | rfl | (simp only [List.length_drop, List.length_take]; rfl)) ?_; (with_reducible refine (spec_DrawStepClock.calls k _ _ l0 t304 t305 t306 t307 t308 _ ?side1 ?side2 A3.out).mono ?_); (case side1 => repeat (first | exact HR0.out | (with_reducible refine Kd.C_alloc ?_ _) | (with_reducible refine Kd.C_drewN ?_ _) | (with_reducible refine Kd.C_drew ?_))); (case side2 => exact HC0.out); rintro e w7 ⟨rfl, hb⟩; refine ⟨_, rfl, ?_⟩; have n0_ := Aside0.mk (below_step (by repeat (first | (with_reducible first | exact HB.out | apply below_alloc | apply pw_below_drewN | apply below_drew1) | exact HB.out)) hb); clear HB; have HB := n0_; clear n0_; (try clear hb); (try clear hb2); (try clear hk); (try clear hi)) | ((with_reducible refine gate_dst (N := 3) rfl ?_); (try (refine gate_guard (by rfl) ?_; dsimp only)); refine box_event ?hg (N := 3) ?hd (cs := #[.int .i64 0, .int .i64 0, .int .i64 0]) (t := 25) ?hr ?_; (case hd => rfl); (case hg => rfl); (case hr => first | (go_simp; done) | (go_simp; rfl)); intro gb309 hg w8 hbox hb; have n0_ := Aside0.mk (below_step (by repeat (first | (with_reducible first | exact HB.out | apply below_alloc | apply pw_below_drewN | apply below_drew1) | exact HB.out)) hb); have n1_ := Aside0.mk (hbox); have n2_ := Aside0.mk ((by rw [hg]; exact (below_size (by repeat (first | (with_reducible first | exact HB.out | apply below_alloc | apply pw_below_drewN | apply below_drew1) | exact HB.out))) : w.heap.size ≤ gb309)); have n3_ := Aside0.mk ((by rw [hg]; exact (below_size (by repeat (first | (with_reducible first | exact HB.out | apply below_alloc | apply pw_below_drewN | apply below_drew1) | exact HB.out))) : w.heap.size ≤ gb309)); clear HB; have HB := n0_; have BK309 := n1_; have GW309 := n2_; have GE309 := n3_; clear n0_ n1_ n2_ n3_; clear hb hbox hg; have hcz9_0 : w8.cell? ⟨gb309, 0, none⟩ = some (.int .i64 0) := (blk_cell BK309.out 0).trans rfl; have hcz9_1 : w8.cell? ⟨gb309, 1, none⟩ = some (.int .i64 0) := (blk_cell BK309.out 1).trans rfl; have hcz9_2 : w8.cell? ⟨gb309, 2, none⟩ = some (.int .i64 0) := (blk_cell BK309.out 2).trans rfl; have hfz9_0 := blk_frozen BK309.out 0; have hfz9_1 := blk_frozen BK309.out 1; have hfz9_2 := blk_frozen BK309.out 2) | ((with_reducible refine gate_callee (f := 22) rfl ?_); refine goesL_ (some 25) rfl rfl Try.func22 (by kernel_rfl) rfl #[.agg #[.int .i64 t304, .int .i64 t305, .int .i64 t306], .int .i64 t307, .int .i64 t308] rfl (by (try simp only [List.map_toArray, List.map_cons, List.map_nil]); first | done | rfl | (simp only [List.length_drop, List.length_take]; rfl)) ?_; (with_reducible refine (impl_StepClock.calls k t304 t305 t306 t307 t308 t310 t311 t312 t313 _ A4.out).mono ?_); rintro e w10 ⟨rfl, hb⟩; refine ⟨_, rfl, ?_⟩; have n0_ := Aside0.mk (blk_below (g := gb309) (o := .cells #[.int .i64 t304, .int .i64 t305, .int .i64 t306] 25 (0, 0)) (by (with_reducible repeat (first | refine blk_drewN ?_ _ | refine blk_drew ?_ | refine blk_alloc ?_ _)); refine blk_put (cs := #[.int .i64 t304, .int .i64 t305, .int .i64 0]) ?_ 2 _ rfl; (with_reducible repeat (first | refine blk_drewN ?_ _ | refine blk_drew ?_ | refine blk_alloc ?_ _)); refine blk_put (cs := #[.int .i64 t304, .int .i64 0, .int .i64 0]) ?_ 1 _ rfl; (with_reducible repeat (first | refine blk_drewN ?_ _ | refine blk_drew ?_ | refine blk_alloc ?_ _)); refine blk_put (cs := #[.int .i64 0, .int .i64 0, .int .i64 0]) ?_ 0 _ rfl; (with_reducible repeat (first | refine blk_drewN ?_ _ | refine blk_drew ?_ | refine blk_alloc ?_ _)); exact BK309.out) hb); have n1_ := Aside0.mk (below_step (by repeat (first | (with_reducible first | exact HB.out | apply below_alloc | apply pw_below_drewN | apply below_drew1 | refine below_set ?_ GE309.out) | exact HB.out)) hb); clear BK309; clear HB; have BK309 := n0_; have HB := n1_; clear n0_ n1_; (try clear hb); (try clear hb2); (try clear hk); (try clear hi)) | ((with_reducible refine gate_dst (N := 6) rfl ?_); (try (refine gate_guard (by rfl) ?_; dsimp only)); refine box_event ?hg (N := 6) ?hd (cs := #[.int .i64 0, .int .i64 0, .int .i64 0]) (t := 25) ?hr ?_; (case hd => rfl); (case hg => rfl); (case hr => first | (go_simp; done) | (go_simp; rfl)); intro gb314 hg w11 hbox hb; have n0_ := Aside0.mk (blk_below (g := gb309) (o := .cells #[.int .i64 t304, .int .i64 t305, .int .i64 t306] 25 (0, 0)) (by (with_reducible repeat (first | refine blk_drewN ?_ _ | refine blk_drew ?_ | refine blk_alloc ?_ _)); exact BK309.out) hb); have n1_ := Aside0.mk (below_step (by repeat (first | (with_reducible first | exact HB.out | apply below_alloc | apply pw_below_drewN | apply below_drew1 | refine below_set ?_ GE309.out) | exact HB.out)) hb); have n2_ := Aside0.mk (hbox); have n3_ := Aside0.mk ((by rw [hg]; exact (below_size (by repeat (first | (with_reducible first | exact HB.out | apply below_alloc | apply pw_below_drewN | apply below_drew1 | refine below_set ?_ GE309.out) | exact HB.out))) : w.heap.size ≤ gb314)); have n4_ := Aside0.mk ((by rw [hg]; exact (below_size (by repeat (first | (with_reducible first | exact HB.out | apply below_alloc | apply pw_below_drewN | apply below_drew1 | refine below_set ?_ GE309.out) | exact HB.out))) : w.heap.size ≤ gb314)); have n5_ := Aside0.mk ((by rw [hg]; exact Nat.ne_of_lt (blk_lt (g := gb309) (o := .cells #[.int .i64 t304, .int .i64 t305, .int .i64 t306] 25 (0, 0)) (by (with_reducible repeat (first | refine blk_drewN ?_ _ | refine blk_drew ?_ | refine blk_alloc ?_ _)); exact BK309.out)) : gb309 ≠ gb314)); have n6_ := Aside0.mk ((by rw [hg]; exact Nat.ne_of_gt (blk_lt (g := gb309) (o := .cells #[.int .i64 t304, .int .i64 t305, .int .i64 t306] 25 (0, 0)) (by (with_reducible repeat (first | refine blk_drewN ?_ _ | refine blk_drew ?_ | refine blk_alloc ?_ _)); exact BK309.out)) : gb314 ≠ gb309)); clear BK309; clear HB; have BK309 := n0_; have HB := n1_; have BK314 := n2_; have GW314 := n3_; have GE314 := n4_; have NB309_314 := n5_; have NB314_309 := n6_; clear n0_ n1_ n2_ n3_ n4_ n5_ n6_; clear hb hbox hg; have hnb12 := NB314_309.out; have hnc12 := NB309_314.out; have hcz13_0 : w11.cell? ⟨gb314, 0, none⟩ = some (.int .i64 0) := (blk_cell BK314.out 0).trans rfl; have hcz13_1 : w11.cell? ⟨gb314, 1, none⟩ = some (.int .i64 0) := (blk_cell BK314.out 1).trans rfl; have hcz13_2 : w11.cell? ⟨gb314, 2, none⟩ = some (.int .i64 0) := (blk_cell BK314.out 2).trans rfl; have hfz13_0 := blk_frozen BK314.out 0; have hfz13_1 := blk_frozen BK314.out 1; have hfz13_2 := blk_frozen BK314.out 2; have hcz14_0 : w11.cell? ⟨gb309, 0, none⟩ = some (.int .i64 t304) := (blk_cell BK309.out 0).trans rfl; have hcz14_1 : w11.cell? ⟨gb309, 1, none⟩ = some (.int .i64 t305) := (blk_cell BK309.out 1).trans rfl; have hcz14_2 : w11.cell? ⟨gb309, 2, none⟩ = some (.int .i64 t306) := (blk_cell BK309.out 2).trans rfl; have hfz14_0 := blk_frozen BK309.out 0; have hfz14_1 := blk_frozen BK309.out 1; have hfz14_2 := blk_frozen BK309.out 2) | ((with_reducible refine gate_callee (f := 21) rfl ?_); refine goesL_ (some 32) rfl rfl Try.func21 (by kernel_rfl) rfl #[.agg #[.int .i64 t304, .int .i64 t305, .int .i64 t306], .int .i64 t307, .int .i64 t308] rfl (by (try simp only [List.map_toArray, List.map_cons, List.map_nil]); first | done | rfl | (simp only [List.length_drop, List.length_take]; rfl)) ?_; (with_reducible refine (spec_StepClock.calls k t304 t305 t306 t307 t308 t315 t316 t317 t318 _ A5.out).mono ?_); rintro e w15 ⟨rfl, hb⟩; refine ⟨_, rfl, ?_⟩; have n0_ := Aside0.mk (blk_below (g := gb309) (o := .cells #[.int .i64 t304, .int .i64 t305, .int .i64 t306] 25 (0, 0)) (by (with_reducible repeat (first | refine blk_drewN ?_ _ | refine blk_drew ?_ | refine blk_alloc ?_ _)); refine blk_far ?_ NB309_314.out _; (with_reducible repeat (first | refine blk_drewN ?_ _ | refine blk_drew ?_ | refine blk_alloc ?_ _)); refine blk_far ?_ NB309_314.out _; (with_reducible repeat (first | refine blk_drewN ?_ _ | refine blk_drew ?_ | refine blk_alloc ?_ _)); refine blk_far ?_ NB309_314.out _; (with_reducible repeat (first | refine blk_drewN ?_ _ | refine blk_drew ?_ | refine blk_alloc ?_ _)); exact BK309.out) hb); have n1_ := Aside0.mk (blk_below (g := gb314) (o := .cells #[.int .i64 t310, .int .i64 t311, .int .i64 t312] 25 (0, 0)) (by (with_reducible repeat (first | refine blk_drewN ?_ _ | refine blk_drew ?_ | refine blk_alloc ?_ _)); refine blk_put (cs := #[.int .i64 t310, .int .i64 t311, .int .i64 0]) ?_ 2 _ rfl; (with_reducible repeat (first | refine blk_drewN ?_ _ | refine blk_drew ?_ | refine blk_alloc ?_ _)); refine blk_put (cs := #[.int .i64 t310, .int .i64 0, .int .i64 0]) ?_ 1 _ rfl; (with_reducible repeat (first | refine blk_drewN ?_ _ | refine blk_drew ?_ | refine blk_alloc ?_ _)); refine blk_put (cs := #[.int .i64 0, .int .i64 0, .int .i64 0]) ?_ 0 _ rfl; (with_reducible repeat (first | refine blk_drewN ?_ _ | refine blk_drew ?_ | refine blk_alloc ?_ _)); exact BK314.out) hb); have n2_ := Aside0.mk (below_step (by repeat (first | (with_reducible first | exact HB.out | apply below_alloc | apply pw_below_drewN | apply below_drew1 | refine below_set ?_ GE309.out | refine below_set ?_ GE314.out) | exact HB.out)) hb); clear BK309; clear BK314; clear HB; have BK309 := n0_; have BK314 := n1_; have HB := n2_; clear n0_ n1_ n2_; (try clear hb); (try clear hb2); (try clear hk); (try clear hi)) | ((with_reducible refine gate_dst (N := 8) rfl ?_); (try (refine gate_guard (by rfl) ?_; dsimp only)); refine box_event ?hg (N := 8) ?hd (cs := #[.int .i64 0, .int .i64 0, .int .i64 0]) (t := 25) ?hr ?_; (case hd => rfl); (case hg => rfl); (case hr => first | (go_simp; done) | (go_simp; rfl)); intro gb319 hg w16 hbox hb; have n0_ := Aside0.mk (blk_below (g := gb309) (o := .cells #[.int .i64 t304, .int .i64 t305, .int .i64 t306] 25 (0, 0)) (by (with_reducible repeat (first | refine blk_drewN ?_ _ | refine blk_drew ?_ | refine blk_alloc ?_ _)); exact BK309.out) hb); have n1_ := Aside0.mk (blk_below (g := gb314) (o := .cells #[.int .i64 t310, .int .i64 t311, .int .i64 t312] 25 (0, 0)) (by (with_reducible repeat (first | refine blk_drewN ?_ _ | refine blk_drew ?_ | refine blk_alloc ?_ _)); exact BK314.out) hb); have n2_ := Aside0.mk (below_step (by repeat (first | (with_reducible first | exact HB.out | apply below_alloc | apply pw_below_drewN | apply below_drew1 | refine below_set ?_ GE309.out | refine below_set ?_ GE314.out) | exact HB.out)) hb); have n3_ := Aside0.mk (hbox); have n4_ := Aside0.mk ((by rw [hg]; exact (below_size (by repeat (first | (with_reducible first | exact HB.out | apply below_alloc | apply pw_below_drewN | apply below_drew1 | refine below_set ?_ GE309.out | refine below_set ?_ GE314.out) | exact HB.out))) : w.heap.size ≤ gb319)); have n5_ := Aside0.mk ((by rw [hg]; exact (below_size (by repeat (first | (with_reducible first | exact HB.out | apply below_alloc | apply pw_below_drewN | apply below_drew1 | refine below_set ?_ GE309.out | refine below_set ?_ GE314.out) | exact HB.out))) : w.heap.size ≤ gb319)); have n6_ := Aside0.mk ((by rw [hg]; exact Nat.ne_of_lt (blk_lt (g := gb309) (o := .cells #[.int .i64 t304, .int .i64 t305, .int .i64 t306] 25 (0, 0)) (by (with_reducible repeat (first | refine blk_drewN ?_ _ | refine blk_drew ?_ | refine blk_alloc ?_ _)); exact BK309.out)) : gb309 ≠ gb319)); have n7_ := Aside0.mk ((by rw [hg]; exact Nat.ne_of_gt (blk_lt (g := gb309) (o := .cells #[.int .i64 t304, .int .i64 t305, .int .i64 t306] 25 (0, 0)) (by (with_reducible repeat (first | refine blk_drewN ?_ _ | refine blk_drew ?_ | refine blk_alloc ?_ _)); exact BK309.out)) : gb319 ≠ gb309)); have n8_ := Aside0.mk ((by rw [hg]; exact Nat.ne_of_lt (blk_lt (g := gb314) (o := .cells #[.int .i64 t310, .int .i64 t311, .int .i64 t312] 25 (0, 0)) (by (with_reducible repeat (first | refine blk_drewN ?_ _ | refine blk_drew ?_ | refine blk_alloc ?_ _)); exact BK314.out)) : gb314 ≠ gb319)); have n9_ := Aside0.mk ((by rw [hg]; exact Nat.ne_of_gt (blk_lt (g := gb314) (o := .cells #[.int .i64 t310, .int .i64 t311, .int .i64 t312] 25 (0, 0)) (by (with_reducible repeat (first | refine blk_drewN ?_ _ | refine blk_drew ?_ | refine blk_alloc ?_ _)); exact BK314.out)) : gb319 ≠ gb314)); clear BK309; clear BK314; clear HB; have BK309 := n0_; have BK314 := n1_; have HB := n2_; have BK319 := n3_; have GW319 := n4_; have GE319 := n5_; have NB309_319 := n6_; have NB319_309 := n7_; have NB314_319 := n8_; have NB319_314 := n9_; clear n0_ n1_ n2_ n3_ n4_ n5_ n6_ n7_ n8_ n9_; clear hb hbox hg; have hnb17 := NB319_309.out; have hnc17 := NB309_319.out; have hnb18 := NB319_314.out; have hnc18 := NB314_319.out; have hcz19_0 : w16.cell? ⟨gb319, 0, none⟩ = some (.int .i64 0) := (blk_cell BK319.out 0).trans rfl; have hcz19_1 : w16.cell? ⟨gb319, 1, none⟩ = some (.int .i64 0) := (blk_cell BK319.out 1).trans rfl; have hcz19_2 : w16.cell? ⟨gb319, 2, none⟩ = some (.int .i64 0) := (blk_cell BK319.out 2).trans rfl; have hfz19_0 := blk_frozen BK319.out 0; have hfz19_1 := blk_frozen BK319.out 1; have hfz19_2 := blk_frozen BK319.out 2))
    (try simp only [Act.put, List.setIfInBounds_toArray, List.set_cons_zero, List.set_cons_succ])
    go_cut [46] (fun v46 wc => ∃ (kq : Nat) (x46_5 : Bool), v46 = .bool x46_5 ∧ Aside0 (laws_FnStepClock.j0 kq t307 t308 t313 t318 x46_5 t304 t305 t306 t310 t311 t312 t315 t316 t317 = some r) ∧ Aside0 (kq ≤ k) ∧ Aside0 (wc.heap[gb309]? = some (.cells #[.int .i64 t304, .int .i64 t305, .int .i64 t306] 25 (0, 0))) ∧ Aside0 (wc.heap[gb314]? = some (.cells #[.int .i64 t310, .int .i64 t311, .int .i64 t312] 25 (0, 0))) ∧ Aside0 (wc.heap[gb319]? = some (.cells #[.int .i64 t315, .int .i64 t316, .int .i64 t317] 25 (0, 0))) ∧ Aside0 (Below w.heap.size w wc))
    case first =>
      have H := HC6.out
      clear HC6
      by_cases c20 : (!(t310 == t315) || (!(t311 == t316) || (!(t312 == t317)))) = true
      · rw [if_pos c20] at H
        have c20b0 : (!(t310 == t315) || (!(t311 == t316) || (!(t312 == t317)))) = true := c20
        clear c20
        (first | rw [c20b0] | (simp only [i64_w, i32_w]; rw [c20b0]) | skip)
        have H' := Aside0.mk H
        clear H
        have hnb21 := NB314_309.out
        have hnc21 := NB309_314.out
        have hnb22 := NB314_319.out
        have hnc22 := NB319_314.out
        have hcz23_0 : w16.cell? ⟨gb314, 0, none⟩ = some (.int .i64 t310) := (blk_cell BK314.out 0).trans rfl
        have hcz23_1 : w16.cell? ⟨gb314, 1, none⟩ = some (.int .i64 t311) := (blk_cell BK314.out 1).trans rfl
        have hcz23_2 : w16.cell? ⟨gb314, 2, none⟩ = some (.int .i64 t312) := (blk_cell BK314.out 2).trans rfl
        have hfz23_0 := blk_frozen BK314.out 0
        have hfz23_1 := blk_frozen BK314.out 1
        have hfz23_2 := blk_frozen BK314.out 2
        have hnb24 := NB319_309.out
        have hnc24 := NB309_319.out
        have hcz25_0 : w16.cell? ⟨gb319, 0, none⟩ = some (.int .i64 0) := (blk_cell BK319.out 0).trans rfl
        have hcz25_1 : w16.cell? ⟨gb319, 1, none⟩ = some (.int .i64 0) := (blk_cell BK319.out 1).trans rfl
        have hcz25_2 : w16.cell? ⟨gb319, 2, none⟩ = some (.int .i64 0) := (blk_cell BK319.out 2).trans rfl
        have hfz25_0 := blk_frozen BK319.out 0
        have hfz25_1 := blk_frozen BK319.out 1
        have hfz25_2 := blk_frozen BK319.out 2
        go_wp2
        go_meet
        case rel => exact ⟨_, (true), (by first | rfl | (simp; done) | (simp [*]; done)), H', ⟨by first | omega | exact Nat.le_refl _⟩, ⟨by (with_reducible repeat (first | refine blk_drewN ?_ _ | refine blk_drew ?_ | refine blk_alloc ?_ _)); refine blk_far ?_ NB309_319.out _; (with_reducible repeat (first | refine blk_drewN ?_ _ | refine blk_drew ?_ | refine blk_alloc ?_ _)); refine blk_far ?_ NB309_319.out _; (with_reducible repeat (first | refine blk_drewN ?_ _ | refine blk_drew ?_ | refine blk_alloc ?_ _)); refine blk_far ?_ NB309_319.out _; (with_reducible repeat (first | refine blk_drewN ?_ _ | refine blk_drew ?_ | refine blk_alloc ?_ _)); exact BK309.out⟩, ⟨by (with_reducible repeat (first | refine blk_drewN ?_ _ | refine blk_drew ?_ | refine blk_alloc ?_ _)); refine blk_far ?_ NB314_319.out _; (with_reducible repeat (first | refine blk_drewN ?_ _ | refine blk_drew ?_ | refine blk_alloc ?_ _)); refine blk_far ?_ NB314_319.out _; (with_reducible repeat (first | refine blk_drewN ?_ _ | refine blk_drew ?_ | refine blk_alloc ?_ _)); refine blk_far ?_ NB314_319.out _; (with_reducible repeat (first | refine blk_drewN ?_ _ | refine blk_drew ?_ | refine blk_alloc ?_ _)); exact BK314.out⟩, ⟨by (with_reducible repeat (first | refine blk_drewN ?_ _ | refine blk_drew ?_ | refine blk_alloc ?_ _)); refine blk_put (cs := #[.int .i64 t315, .int .i64 t316, .int .i64 0]) ?_ 2 _ rfl; (with_reducible repeat (first | refine blk_drewN ?_ _ | refine blk_drew ?_ | refine blk_alloc ?_ _)); refine blk_put (cs := #[.int .i64 t315, .int .i64 0, .int .i64 0]) ?_ 1 _ rfl; (with_reducible repeat (first | refine blk_drewN ?_ _ | refine blk_drew ?_ | refine blk_alloc ?_ _)); refine blk_put (cs := #[.int .i64 0, .int .i64 0, .int .i64 0]) ?_ 0 _ rfl; (with_reducible repeat (first | refine blk_drewN ?_ _ | refine blk_drew ?_ | refine blk_alloc ?_ _)); exact BK319.out⟩, ⟨by repeat (first | (with_reducible first | exact HB.out | apply below_alloc | apply pw_below_drewN | apply below_drew1 | refine below_set ?_ GE309.out | refine below_set ?_ GE314.out | refine below_set ?_ GE319.out) | exact HB.out)⟩⟩
      · rw [if_neg c20] at H
        have c20b0 : (!(t310 == t315) || (!(t311 == t316) || (!(t312 == t317)))) = false := by simpa using c20
        clear c20
        (first | rw [c20b0] | (simp only [i64_w, i32_w]; rw [c20b0]) | skip)
        by_cases c26 : (t313 != t318) = true
        · rw [if_pos c26] at H
          have c26b0 : (t313 != t318) = true := c26
          (try (have c26b1 : decide (t313 = t318) = false := by simpa using c26))
          (try (have c26b2 : (t313 == t318) = false := by simpa using c26))
          (try (have c26b3 : ¬ (t313 = t318) := by simpa using c26))
          clear c26
          have H' := Aside0.mk H
          clear H
          have hnb27 := NB314_309.out
          have hnc27 := NB309_314.out
          have hnb28 := NB314_319.out
          have hnc28 := NB319_314.out
          have hcz29_0 : w16.cell? ⟨gb314, 0, none⟩ = some (.int .i64 t310) := (blk_cell BK314.out 0).trans rfl
          have hcz29_1 : w16.cell? ⟨gb314, 1, none⟩ = some (.int .i64 t311) := (blk_cell BK314.out 1).trans rfl
          have hcz29_2 : w16.cell? ⟨gb314, 2, none⟩ = some (.int .i64 t312) := (blk_cell BK314.out 2).trans rfl
          have hfz29_0 := blk_frozen BK314.out 0
          have hfz29_1 := blk_frozen BK314.out 1
          have hfz29_2 := blk_frozen BK314.out 2
          have hnb30 := NB319_309.out
          have hnc30 := NB309_319.out
          have hcz31_0 : w16.cell? ⟨gb319, 0, none⟩ = some (.int .i64 0) := (blk_cell BK319.out 0).trans rfl
          have hcz31_1 : w16.cell? ⟨gb319, 1, none⟩ = some (.int .i64 0) := (blk_cell BK319.out 1).trans rfl
          have hcz31_2 : w16.cell? ⟨gb319, 2, none⟩ = some (.int .i64 0) := (blk_cell BK319.out 2).trans rfl
          have hfz31_0 := blk_frozen BK319.out 0
          have hfz31_1 := blk_frozen BK319.out 1
          have hfz31_2 := blk_frozen BK319.out 2
          go_wp2
          go_meet
          case rel => exact ⟨_, (true), (by first | rfl | (simp; done) | (simp [*]; done)), H', ⟨by first | omega | exact Nat.le_refl _⟩, ⟨by (with_reducible repeat (first | refine blk_drewN ?_ _ | refine blk_drew ?_ | refine blk_alloc ?_ _)); refine blk_far ?_ NB309_319.out _; (with_reducible repeat (first | refine blk_drewN ?_ _ | refine blk_drew ?_ | refine blk_alloc ?_ _)); refine blk_far ?_ NB309_319.out _; (with_reducible repeat (first | refine blk_drewN ?_ _ | refine blk_drew ?_ | refine blk_alloc ?_ _)); refine blk_far ?_ NB309_319.out _; (with_reducible repeat (first | refine blk_drewN ?_ _ | refine blk_drew ?_ | refine blk_alloc ?_ _)); exact BK309.out⟩, ⟨by (with_reducible repeat (first | refine blk_drewN ?_ _ | refine blk_drew ?_ | refine blk_alloc ?_ _)); refine blk_far ?_ NB314_319.out _; (with_reducible repeat (first | refine blk_drewN ?_ _ | refine blk_drew ?_ | refine blk_alloc ?_ _)); refine blk_far ?_ NB314_319.out _; (with_reducible repeat (first | refine blk_drewN ?_ _ | refine blk_drew ?_ | refine blk_alloc ?_ _)); refine blk_far ?_ NB314_319.out _; (with_reducible repeat (first | refine blk_drewN ?_ _ | refine blk_drew ?_ | refine blk_alloc ?_ _)); exact BK314.out⟩, ⟨by (with_reducible repeat (first | refine blk_drewN ?_ _ | refine blk_drew ?_ | refine blk_alloc ?_ _)); refine blk_put (cs := #[.int .i64 t315, .int .i64 t316, .int .i64 0]) ?_ 2 _ rfl; (with_reducible repeat (first | refine blk_drewN ?_ _ | refine blk_drew ?_ | refine blk_alloc ?_ _)); refine blk_put (cs := #[.int .i64 t315, .int .i64 0, .int .i64 0]) ?_ 1 _ rfl; (with_reducible repeat (first | refine blk_drewN ?_ _ | refine blk_drew ?_ | refine blk_alloc ?_ _)); refine blk_put (cs := #[.int .i64 0, .int .i64 0, .int .i64 0]) ?_ 0 _ rfl; (with_reducible repeat (first | refine blk_drewN ?_ _ | refine blk_drew ?_ | refine blk_alloc ?_ _)); exact BK319.out⟩, ⟨by repeat (first | (with_reducible first | exact HB.out | apply below_alloc | apply pw_below_drewN | apply below_drew1 | refine below_set ?_ GE309.out | refine below_set ?_ GE314.out | refine below_set ?_ GE319.out) | exact HB.out)⟩⟩
        · rw [if_neg c26] at H
          have c26b0 : (t313 != t318) = false := by simpa using c26
          (try (have c26b1 : decide (t313 = t318) = true := by simpa using c26))
          (try (have c26b2 : (t313 == t318) = true := by simpa using c26))
          clear c26
          have H' := Aside0.mk H
          clear H
          have hnb32 := NB314_309.out
          have hnc32 := NB309_314.out
          have hnb33 := NB314_319.out
          have hnc33 := NB319_314.out
          have hcz34_0 : w16.cell? ⟨gb314, 0, none⟩ = some (.int .i64 t310) := (blk_cell BK314.out 0).trans rfl
          have hcz34_1 : w16.cell? ⟨gb314, 1, none⟩ = some (.int .i64 t311) := (blk_cell BK314.out 1).trans rfl
          have hcz34_2 : w16.cell? ⟨gb314, 2, none⟩ = some (.int .i64 t312) := (blk_cell BK314.out 2).trans rfl
          have hfz34_0 := blk_frozen BK314.out 0
          have hfz34_1 := blk_frozen BK314.out 1
          have hfz34_2 := blk_frozen BK314.out 2
          have hnb35 := NB319_309.out
          have hnc35 := NB309_319.out
          have hcz36_0 : w16.cell? ⟨gb319, 0, none⟩ = some (.int .i64 0) := (blk_cell BK319.out 0).trans rfl
          have hcz36_1 : w16.cell? ⟨gb319, 1, none⟩ = some (.int .i64 0) := (blk_cell BK319.out 1).trans rfl
          have hcz36_2 : w16.cell? ⟨gb319, 2, none⟩ = some (.int .i64 0) := (blk_cell BK319.out 2).trans rfl
          have hfz36_0 := blk_frozen BK319.out 0
          have hfz36_1 := blk_frozen BK319.out 1
          have hfz36_2 := blk_frozen BK319.out 2
          go_wp2
          go_meet
          case rel => exact ⟨_, (!t313), (by first | rfl | (simp; done) | (simp [*]; done)), H', ⟨by first | omega | exact Nat.le_refl _⟩, ⟨by (with_reducible repeat (first | refine blk_drewN ?_ _ | refine blk_drew ?_ | refine blk_alloc ?_ _)); refine blk_far ?_ NB309_319.out _; (with_reducible repeat (first | refine blk_drewN ?_ _ | refine blk_drew ?_ | refine blk_alloc ?_ _)); refine blk_far ?_ NB309_319.out _; (with_reducible repeat (first | refine blk_drewN ?_ _ | refine blk_drew ?_ | refine blk_alloc ?_ _)); refine blk_far ?_ NB309_319.out _; (with_reducible repeat (first | refine blk_drewN ?_ _ | refine blk_drew ?_ | refine blk_alloc ?_ _)); exact BK309.out⟩, ⟨by (with_reducible repeat (first | refine blk_drewN ?_ _ | refine blk_drew ?_ | refine blk_alloc ?_ _)); refine blk_far ?_ NB314_319.out _; (with_reducible repeat (first | refine blk_drewN ?_ _ | refine blk_drew ?_ | refine blk_alloc ?_ _)); refine blk_far ?_ NB314_319.out _; (with_reducible repeat (first | refine blk_drewN ?_ _ | refine blk_drew ?_ | refine blk_alloc ?_ _)); refine blk_far ?_ NB314_319.out _; (with_reducible repeat (first | refine blk_drewN ?_ _ | refine blk_drew ?_ | refine blk_alloc ?_ _)); exact BK314.out⟩, ⟨by (with_reducible repeat (first | refine blk_drewN ?_ _ | refine blk_drew ?_ | refine blk_alloc ?_ _)); refine blk_put (cs := #[.int .i64 t315, .int .i64 t316, .int .i64 0]) ?_ 2 _ rfl; (with_reducible repeat (first | refine blk_drewN ?_ _ | refine blk_drew ?_ | refine blk_alloc ?_ _)); refine blk_put (cs := #[.int .i64 t315, .int .i64 0, .int .i64 0]) ?_ 1 _ rfl; (with_reducible repeat (first | refine blk_drewN ?_ _ | refine blk_drew ?_ | refine blk_alloc ?_ _)); refine blk_put (cs := #[.int .i64 0, .int .i64 0, .int .i64 0]) ?_ 0 _ rfl; (with_reducible repeat (first | refine blk_drewN ?_ _ | refine blk_drew ?_ | refine blk_alloc ?_ _)); exact BK319.out⟩, ⟨by repeat (first | (with_reducible first | exact HB.out | apply below_alloc | apply pw_below_drewN | apply below_drew1 | refine below_set ?_ GE309.out | refine below_set ?_ GE314.out | refine below_set ?_ GE319.out) | exact HB.out)⟩⟩
    case rest =>
      clear HC6
      try clear c1
      try clear c2
      try clear c2b0
      try clear c2b1
      try clear p2
      try clear c3
      try clear c11
      try clear c12
      try clear c17
      try clear c18
      try clear c20
      try clear c20b0
      try clear c21
      try clear c22
      try clear c24
      try clear c26
      try clear c26b0
      try clear c26b1
      try clear c26b2
      try clear c27
      try clear c28
      try clear c30
      try clear c32
      try clear c33
      try clear c35
      try clear hcz13_0
      try clear hcz13_1
      try clear hcz13_2
      try clear hcz14_0
      try clear hcz14_1
      try clear hcz14_2
      try clear hcz19_0
      try clear hcz19_1
      try clear hcz19_2
      try clear hcz23_0
      try clear hcz23_1
      try clear hcz23_2
      try clear hcz25_0
      try clear hcz25_1
      try clear hcz25_2
      try clear hcz29_0
      try clear hcz29_1
      try clear hcz29_2
      try clear hcz31_0
      try clear hcz31_1
      try clear hcz31_2
      try clear hcz34_0
      try clear hcz34_1
      try clear hcz34_2
      try clear hcz36_0
      try clear hcz36_1
      try clear hcz36_2
      try clear hcz9_0
      try clear hcz9_1
      try clear hcz9_2
      try clear hfz13_0
      try clear hfz13_1
      try clear hfz13_2
      try clear hfz14_0
      try clear hfz14_1
      try clear hfz14_2
      try clear hfz19_0
      try clear hfz19_1
      try clear hfz19_2
      try clear hfz23_0
      try clear hfz23_1
      try clear hfz23_2
      try clear hfz25_0
      try clear hfz25_1
      try clear hfz25_2
      try clear hfz29_0
      try clear hfz29_1
      try clear hfz29_2
      try clear hfz31_0
      try clear hfz31_1
      try clear hfz31_2
      try clear hfz34_0
      try clear hfz34_1
      try clear hfz34_2
      try clear hfz36_0
      try clear hfz36_1
      try clear hfz36_2
      try clear hfz9_0
      try clear hfz9_1
      try clear hfz9_2
      obtain ⟨kq, x46_5, rfl, HA, HJ5, BK309, BK314, BK319, HB⟩ := hcut
      cases kq with
      | zero => exact absurd HA.out (by simp [laws_FnStepClock.j0])
      | succ kj5 =>
        have H := HA.out
        clear HA
        simp only [laws_FnStepClock.j0] at H
        by_cases c37 : x46_5 = true
        · subst c37
          have H1 : (if (t310 == t315 && (t311 == t316 && (t312 == t317))) = true then (some (t313 == t318)) else (some false)) = some r := by rw [if_pos rfl] at H; exact H
          clear H
          have H := H1
          clear H1
          by_cases c38 : (t310 == t315 && (t311 == t316 && (t312 == t317))) = true
          · rw [if_pos c38] at H
            have c38b0 : (t310 == t315 && (t311 == t316 && (t312 == t317))) = true := c38
            (try (have c38b1 : decide (t310 = t315 && (t311 == t316 && (t312 == t317))) = true := by simpa using c38))
            (try (have c38b2 : (t310 == t315 && (t311 == t316 && (t312 == t317))) = true := by simpa using c38))
            clear c38
            obtain rfl := Option.some.inj H
            have hnb39 := NB314_309.out
            have hnc39 := NB309_314.out
            have hnb40 := NB314_319.out
            have hnc40 := NB319_314.out
            have hcz41_0 : wc.cell? ⟨gb314, 0, none⟩ = some (.int .i64 t310) := (blk_cell BK314.out 0).trans rfl
            have hcz41_1 : wc.cell? ⟨gb314, 1, none⟩ = some (.int .i64 t311) := (blk_cell BK314.out 1).trans rfl
            have hcz41_2 : wc.cell? ⟨gb314, 2, none⟩ = some (.int .i64 t312) := (blk_cell BK314.out 2).trans rfl
            have hfz41_0 := blk_frozen BK314.out 0
            have hfz41_1 := blk_frozen BK314.out 1
            have hfz41_2 := blk_frozen BK314.out 2
            have hnb42 := NB319_309.out
            have hnc42 := NB309_319.out
            have hcz43_0 : wc.cell? ⟨gb319, 0, none⟩ = some (.int .i64 t315) := (blk_cell BK319.out 0).trans rfl
            have hcz43_1 : wc.cell? ⟨gb319, 1, none⟩ = some (.int .i64 t316) := (blk_cell BK319.out 1).trans rfl
            have hcz43_2 : wc.cell? ⟨gb319, 2, none⟩ = some (.int .i64 t317) := (blk_cell BK319.out 2).trans rfl
            have hfz43_0 := blk_frozen BK319.out 0
            have hfz43_1 := blk_frozen BK319.out 1
            have hfz43_2 := blk_frozen BK319.out 2
            go_wp2
            go_ret
            exact ⟨by first | rfl | (simp [errW_none, errW_some] <;> rfl) | (simp [*, errW_none, errW_some] <;> rfl), by repeat (first | (with_reducible first | exact HB.out | apply below_alloc | apply pw_below_drewN | apply below_drew1 | refine below_set ?_ GE309.out | refine below_set ?_ GE314.out | refine below_set ?_ GE319.out) | exact HB.out)⟩
          · rw [if_neg c38] at H
            have c38b0 : (t310 == t315 && (t311 == t316 && (t312 == t317))) = false := by simpa using c38
            (try (have c38b1 : decide (t310 = t315 && (t311 == t316 && (t312 == t317))) = false := by simpa using c38))
            (try (have c38b2 : (t310 == t315 && (t311 == t316 && (t312 == t317))) = false := by simpa using c38))
            (try (have c38b3 : ¬ (t310 = t315 && (t311 == t316 && (t312 == t317))) := by simpa using c38))
            clear c38
            obtain rfl := Option.some.inj H
            have hnb44 := NB314_309.out
            have hnc44 := NB309_314.out
            have hnb45 := NB314_319.out
            have hnc45 := NB319_314.out
            have hcz46_0 : wc.cell? ⟨gb314, 0, none⟩ = some (.int .i64 t310) := (blk_cell BK314.out 0).trans rfl
            have hcz46_1 : wc.cell? ⟨gb314, 1, none⟩ = some (.int .i64 t311) := (blk_cell BK314.out 1).trans rfl
            have hcz46_2 : wc.cell? ⟨gb314, 2, none⟩ = some (.int .i64 t312) := (blk_cell BK314.out 2).trans rfl
            have hfz46_0 := blk_frozen BK314.out 0
            have hfz46_1 := blk_frozen BK314.out 1
            have hfz46_2 := blk_frozen BK314.out 2
            have hnb47 := NB319_309.out
            have hnc47 := NB309_319.out
            have hcz48_0 : wc.cell? ⟨gb319, 0, none⟩ = some (.int .i64 t315) := (blk_cell BK319.out 0).trans rfl
            have hcz48_1 : wc.cell? ⟨gb319, 1, none⟩ = some (.int .i64 t316) := (blk_cell BK319.out 1).trans rfl
            have hcz48_2 : wc.cell? ⟨gb319, 2, none⟩ = some (.int .i64 t317) := (blk_cell BK319.out 2).trans rfl
            have hfz48_0 := blk_frozen BK319.out 0
            have hfz48_1 := blk_frozen BK319.out 1
            have hfz48_2 := blk_frozen BK319.out 2
            go_wp2
            go_ret
            exact ⟨by first | rfl | (simp [errW_none, errW_some] <;> rfl) | (simp [*, errW_none, errW_some] <;> rfl), by repeat (first | (with_reducible first | exact HB.out | apply below_alloc | apply pw_below_drewN | apply below_drew1 | refine below_set ?_ GE309.out | refine below_set ?_ GE314.out | refine below_set ?_ GE319.out) | exact HB.out)⟩
        · replace c37 := Bool.eq_false_iff.mpr c37
          subst c37
          have H1 : ((impl_OffsetAt.f t304 t305 t306 t307).bind fun bt320 => ((laws_size.f t308).bind fun t322 => (if t322 > 128000 then (if bt320.2 = true then (if t311 = t305 then (if t310 = (mx (-1000000) (mn 1000000 (wrap64 (bt320.1 - t308)))) then (some (t312 == t307)) else (some false)) else (some false)) else (some false)) else (if bt320.2 = true then (if t312 = t307 then ((laws_size.f (wrap64 (bt320.1 - t310))).bind fun t323 => ((laws_size.f t308).bind fun t324 => (if t323 ≤ (wrap64 ((wrap64 (Int.tdiv t324 4)) + 1)) then (some true) else ((laws_size.f bt320.1).bind fun t325 => (some (decide (t325 > 1000000))))))) else ((laws_size.f bt320.1).bind fun t326 => (some (decide (t326 > 1000000))))) else (some false))))) = some r := by rw [if_neg (show ¬ (false = true) by decide)] at H; exact H
          clear H
          have H := H1
          clear H1
          replace H := Option.bind_eq_some_iff.mp H
          obtain ⟨⟨t320, t321⟩, A490, H⟩ := H
          replace H : ((laws_size.f t308).bind fun t322 => (if t322 > 128000 then (if t321 = true then (if t311 = t305 then (if t310 = (mx (-1000000) (mn 1000000 (wrap64 (t320 - t308)))) then (some (t312 == t307)) else (some false)) else (some false)) else (some false)) else (if t321 = true then (if t312 = t307 then ((laws_size.f (wrap64 (t320 - t310))).bind fun t323 => ((laws_size.f t308).bind fun t324 => (if t323 ≤ (wrap64 ((wrap64 (Int.tdiv t324 4)) + 1)) then (some true) else ((laws_size.f t320).bind fun t325 => (some (decide (t325 > 1000000))))))) else ((laws_size.f t320).bind fun t326 => (some (decide (t326 > 1000000))))) else (some false)))) = some r := H
          have A49 := Aside0.mk A490
          clear A490
          replace H := Option.bind_eq_some_iff.mp H
          obtain ⟨t322, A500, H⟩ := H
          replace H : (if t322 > 128000 then (if t321 = true then (if t311 = t305 then (if t310 = (mx (-1000000) (mn 1000000 (wrap64 (t320 - t308)))) then (some (t312 == t307)) else (some false)) else (some false)) else (some false)) else (if t321 = true then (if t312 = t307 then ((laws_size.f (wrap64 (t320 - t310))).bind fun t323 => ((laws_size.f t308).bind fun t324 => (if t323 ≤ (wrap64 ((wrap64 (Int.tdiv t324 4)) + 1)) then (some true) else ((laws_size.f t320).bind fun t325 => (some (decide (t325 > 1000000))))))) else ((laws_size.f t320).bind fun t326 => (some (decide (t326 > 1000000))))) else (some false))) = some r := H
          have A50 := Aside0.mk A500
          clear A500
          by_cases c51 : t322 > 128000
          · rw [if_pos c51] at H
            have c51b0 : decide (128000 < t322) = true := decide_eq_true c51
            clear c51
            by_cases c52 : t321 = true
            · subst c52
              have H1 : (if t311 = t305 then (if t310 = (mx (-1000000) (mn 1000000 (wrap64 (t320 - t308)))) then (some (t312 == t307)) else (some false)) else (some false)) = some r := by rw [if_pos rfl] at H; exact H
              clear H
              have H := H1
              clear H1
              by_cases c53 : t311 = t305
              · rw [if_pos c53] at H
                have c53b0 : (t311 == t305) = true := beq_iff_eq.mpr c53
                have c53b1 : (t311 != t305) = false := bne_eq_false_iff_eq.mpr c53
                clear c53
                obtain ⟨ji54, hji54⟩ : ∃ j_ : Int, (mn 1000000 (wrap64 (t320 - t308))) = j_ := ⟨_, rfl⟩
                replace H : (if t310 = (mx (-1000000) (ji54)) then (some (t312 == t307)) else (some false)) = some r := by first | (rw [hji54] at H; exact H) | (simp only [hji54] at H ⊢; exact H)
                (try rw [hji54] at A49)
                (try rw [hji54] at A50)
                have hji54_ : (if (wrap64 (t320 - t308)) < 1000000 then (wrap64 (t320 - t308)) else 1000000) = ji54 := hji54
                obtain ⟨ji55, hji55⟩ : ∃ j_ : Int, (mx (-1000000) (ji54)) = j_ := ⟨_, rfl⟩
                replace H : (if t310 = (ji55) then (some (t312 == t307)) else (some false)) = some r := by first | (rw [hji55] at H; exact H) | (simp only [hji55] at H ⊢; exact H)
                (try rw [hji55] at A49)
                (try rw [hji55] at A50)
                have hji55_ : (if (-1000000) < (ji54) then (ji54) else (-1000000)) = ji55 := hji55
                by_cases c56 : t310 = (ji55)
                · rw [if_pos c56] at H
                  have c56b0 : (t310 == (ji55)) = true := beq_iff_eq.mpr c56
                  have c56b1 : (t310 != (ji55)) = false := bne_eq_false_iff_eq.mpr c56
                  clear c56
                  obtain rfl := Option.some.inj H
                  have hnb57 := NB309_314.out
                  have hnc57 := NB314_309.out
                  have hnb58 := NB309_319.out
                  have hnc58 := NB319_309.out
                  have hcz59_0 : wc.cell? ⟨gb309, 0, none⟩ = some (.int .i64 t304) := (blk_cell BK309.out 0).trans rfl
                  have hcz59_1 : wc.cell? ⟨gb309, 1, none⟩ = some (.int .i64 t305) := (blk_cell BK309.out 1).trans rfl
                  have hcz59_2 : wc.cell? ⟨gb309, 2, none⟩ = some (.int .i64 t306) := (blk_cell BK309.out 2).trans rfl
                  have hfz59_0 := blk_frozen BK309.out 0
                  have hfz59_1 := blk_frozen BK309.out 1
                  have hfz59_2 := blk_frozen BK309.out 2
                  go_wp2_with (first | ((with_reducible refine gate_callee (f := 18) rfl ?_); refine goesL_ (some 58) rfl rfl Try.func18 (by kernel_rfl) rfl #[.agg #[.int .i64 t304, .int .i64 t305, .int .i64 t306], .int .i64 t307] rfl (by (try simp only [List.map_toArray, List.map_cons, List.map_nil]); first | done | rfl | (simp only [List.length_drop, List.length_take]; rfl)) ?_; (with_reducible refine (impl_OffsetAt.calls t304 t305 t306 t307 t320 true _ A49.out).mono ?_); rintro e w60 ⟨rfl, hb⟩; refine ⟨_, rfl, ?_⟩; have n0_ := Aside0.mk (blk_below (g := gb309) (o := .cells #[.int .i64 t304, .int .i64 t305, .int .i64 t306] 25 (0, 0)) (by (with_reducible repeat (first | refine blk_drewN ?_ _ | refine blk_drew ?_ | refine blk_alloc ?_ _)); exact BK309.out) hb); have n1_ := Aside0.mk (blk_below (g := gb314) (o := .cells #[.int .i64 t310, .int .i64 t311, .int .i64 t312] 25 (0, 0)) (by (with_reducible repeat (first | refine blk_drewN ?_ _ | refine blk_drew ?_ | refine blk_alloc ?_ _)); exact BK314.out) hb); have n2_ := Aside0.mk (blk_below (g := gb319) (o := .cells #[.int .i64 t315, .int .i64 t316, .int .i64 t317] 25 (0, 0)) (by (with_reducible repeat (first | refine blk_drewN ?_ _ | refine blk_drew ?_ | refine blk_alloc ?_ _)); exact BK319.out) hb); have n3_ := Aside0.mk (below_step (by repeat (first | (with_reducible first | exact HB.out | apply below_alloc | apply pw_below_drewN | apply below_drew1 | refine below_set ?_ GE309.out | refine below_set ?_ GE314.out | refine below_set ?_ GE319.out) | exact HB.out)) hb); clear BK309; clear BK314; clear BK319; clear HB; have BK309 := n0_; have BK314 := n1_; have BK319 := n2_; have HB := n3_; clear n0_ n1_ n2_ n3_; (try clear hb); (try clear hb2); (try clear hk); (try clear hi)) | ((with_reducible refine gate_callee (f := 25) rfl ?_); refine goesL_ (some 62) rfl rfl Try.func25 (by kernel_rfl) rfl #[.int .i64 t308] rfl (by (try simp only [List.map_toArray, List.map_cons, List.map_nil]); first | done | rfl | (simp only [List.length_drop, List.length_take]; rfl)) ?_; (with_reducible refine (laws_size.calls t308 t322 _ A50.out).mono ?_); rintro e w61 ⟨rfl, hb⟩; refine ⟨_, rfl, ?_⟩; have n0_ := Aside0.mk (blk_below (g := gb309) (o := .cells #[.int .i64 t304, .int .i64 t305, .int .i64 t306] 25 (0, 0)) (by (with_reducible repeat (first | refine blk_drewN ?_ _ | refine blk_drew ?_ | refine blk_alloc ?_ _)); exact BK309.out) hb); have n1_ := Aside0.mk (blk_below (g := gb314) (o := .cells #[.int .i64 t310, .int .i64 t311, .int .i64 t312] 25 (0, 0)) (by (with_reducible repeat (first | refine blk_drewN ?_ _ | refine blk_drew ?_ | refine blk_alloc ?_ _)); exact BK314.out) hb); have n2_ := Aside0.mk (blk_below (g := gb319) (o := .cells #[.int .i64 t315, .int .i64 t316, .int .i64 t317] 25 (0, 0)) (by (with_reducible repeat (first | refine blk_drewN ?_ _ | refine blk_drew ?_ | refine blk_alloc ?_ _)); exact BK319.out) hb); have n3_ := Aside0.mk (below_step (by repeat (first | (with_reducible first | exact HB.out | apply below_alloc | apply pw_below_drewN | apply below_drew1 | refine below_set ?_ GE309.out | refine below_set ?_ GE314.out | refine below_set ?_ GE319.out) | exact HB.out)) hb); clear BK309; clear BK314; clear BK319; clear HB; have BK309 := n0_; have BK314 := n1_; have BK319 := n2_; have HB := n3_; clear n0_ n1_ n2_ n3_; (try clear hb); (try clear hb2); (try clear hk); (try clear hi); have hnb62 := NB314_319.out; have hnc62 := NB319_314.out; have hcz63_0 : w61.cell? ⟨gb314, 0, none⟩ = some (.int .i64 t310) := (blk_cell BK314.out 0).trans rfl; have hcz63_1 : w61.cell? ⟨gb314, 1, none⟩ = some (.int .i64 t311) := (blk_cell BK314.out 1).trans rfl; have hcz63_2 : w61.cell? ⟨gb314, 2, none⟩ = some (.int .i64 t312) := (blk_cell BK314.out 2).trans rfl; have hfz63_0 := blk_frozen BK314.out 0; have hfz63_1 := blk_frozen BK314.out 1; have hfz63_2 := blk_frozen BK314.out 2; have hcz64_0 : w61.cell? ⟨gb309, 0, none⟩ = some (.int .i64 t304) := (blk_cell BK309.out 0).trans rfl; have hcz64_1 : w61.cell? ⟨gb309, 1, none⟩ = some (.int .i64 t305) := (blk_cell BK309.out 1).trans rfl; have hcz64_2 : w61.cell? ⟨gb309, 2, none⟩ = some (.int .i64 t306) := (blk_cell BK309.out 2).trans rfl; have hfz64_0 := blk_frozen BK309.out 0; have hfz64_1 := blk_frozen BK309.out 1; have hfz64_2 := blk_frozen BK309.out 2))
                  go_ret
                  exact ⟨by first | rfl | (simp [errW_none, errW_some] <;> rfl) | (simp only [← hji54, ← hji55]; first | rfl | (simp [errW_none, errW_some] <;> rfl)) | (simp [*, errW_none, errW_some] <;> rfl), by repeat (first | (with_reducible first | exact HB.out | apply below_alloc | apply pw_below_drewN | apply below_drew1 | refine below_set ?_ GE309.out | refine below_set ?_ GE314.out | refine below_set ?_ GE319.out) | exact HB.out)⟩
                · rw [if_neg c56] at H
                  have c56b0 : (t310 == (ji55)) = false := beq_eq_false_iff_ne.mpr c56
                  have c56b1 : (t310 != (ji55)) = true := bne_iff_ne.mpr c56
                  obtain rfl := Option.some.inj H
                  have hnb65 := NB309_314.out
                  have hnc65 := NB314_309.out
                  have hnb66 := NB309_319.out
                  have hnc66 := NB319_309.out
                  have hcz67_0 : wc.cell? ⟨gb309, 0, none⟩ = some (.int .i64 t304) := (blk_cell BK309.out 0).trans rfl
                  have hcz67_1 : wc.cell? ⟨gb309, 1, none⟩ = some (.int .i64 t305) := (blk_cell BK309.out 1).trans rfl
                  have hcz67_2 : wc.cell? ⟨gb309, 2, none⟩ = some (.int .i64 t306) := (blk_cell BK309.out 2).trans rfl
                  have hfz67_0 := blk_frozen BK309.out 0
                  have hfz67_1 := blk_frozen BK309.out 1
                  have hfz67_2 := blk_frozen BK309.out 2
                  go_wp2_with (first | ((with_reducible refine gate_callee (f := 18) rfl ?_); refine goesL_ (some 58) rfl rfl Try.func18 (by kernel_rfl) rfl #[.agg #[.int .i64 t304, .int .i64 t305, .int .i64 t306], .int .i64 t307] rfl (by (try simp only [List.map_toArray, List.map_cons, List.map_nil]); first | done | rfl | (simp only [List.length_drop, List.length_take]; rfl)) ?_; (with_reducible refine (impl_OffsetAt.calls t304 t305 t306 t307 t320 true _ A49.out).mono ?_); rintro e w68 ⟨rfl, hb⟩; refine ⟨_, rfl, ?_⟩; have n0_ := Aside0.mk (blk_below (g := gb309) (o := .cells #[.int .i64 t304, .int .i64 t305, .int .i64 t306] 25 (0, 0)) (by (with_reducible repeat (first | refine blk_drewN ?_ _ | refine blk_drew ?_ | refine blk_alloc ?_ _)); exact BK309.out) hb); have n1_ := Aside0.mk (blk_below (g := gb314) (o := .cells #[.int .i64 t310, .int .i64 t311, .int .i64 t312] 25 (0, 0)) (by (with_reducible repeat (first | refine blk_drewN ?_ _ | refine blk_drew ?_ | refine blk_alloc ?_ _)); exact BK314.out) hb); have n2_ := Aside0.mk (blk_below (g := gb319) (o := .cells #[.int .i64 t315, .int .i64 t316, .int .i64 t317] 25 (0, 0)) (by (with_reducible repeat (first | refine blk_drewN ?_ _ | refine blk_drew ?_ | refine blk_alloc ?_ _)); exact BK319.out) hb); have n3_ := Aside0.mk (below_step (by repeat (first | (with_reducible first | exact HB.out | apply below_alloc | apply pw_below_drewN | apply below_drew1 | refine below_set ?_ GE309.out | refine below_set ?_ GE314.out | refine below_set ?_ GE319.out) | exact HB.out)) hb); clear BK309; clear BK314; clear BK319; clear HB; have BK309 := n0_; have BK314 := n1_; have BK319 := n2_; have HB := n3_; clear n0_ n1_ n2_ n3_; (try clear hb); (try clear hb2); (try clear hk); (try clear hi)) | ((with_reducible refine gate_callee (f := 25) rfl ?_); refine goesL_ (some 62) rfl rfl Try.func25 (by kernel_rfl) rfl #[.int .i64 t308] rfl (by (try simp only [List.map_toArray, List.map_cons, List.map_nil]); first | done | rfl | (simp only [List.length_drop, List.length_take]; rfl)) ?_; (with_reducible refine (laws_size.calls t308 t322 _ A50.out).mono ?_); rintro e w69 ⟨rfl, hb⟩; refine ⟨_, rfl, ?_⟩; have n0_ := Aside0.mk (blk_below (g := gb309) (o := .cells #[.int .i64 t304, .int .i64 t305, .int .i64 t306] 25 (0, 0)) (by (with_reducible repeat (first | refine blk_drewN ?_ _ | refine blk_drew ?_ | refine blk_alloc ?_ _)); exact BK309.out) hb); have n1_ := Aside0.mk (blk_below (g := gb314) (o := .cells #[.int .i64 t310, .int .i64 t311, .int .i64 t312] 25 (0, 0)) (by (with_reducible repeat (first | refine blk_drewN ?_ _ | refine blk_drew ?_ | refine blk_alloc ?_ _)); exact BK314.out) hb); have n2_ := Aside0.mk (blk_below (g := gb319) (o := .cells #[.int .i64 t315, .int .i64 t316, .int .i64 t317] 25 (0, 0)) (by (with_reducible repeat (first | refine blk_drewN ?_ _ | refine blk_drew ?_ | refine blk_alloc ?_ _)); exact BK319.out) hb); have n3_ := Aside0.mk (below_step (by repeat (first | (with_reducible first | exact HB.out | apply below_alloc | apply pw_below_drewN | apply below_drew1 | refine below_set ?_ GE309.out | refine below_set ?_ GE314.out | refine below_set ?_ GE319.out) | exact HB.out)) hb); clear BK309; clear BK314; clear BK319; clear HB; have BK309 := n0_; have BK314 := n1_; have BK319 := n2_; have HB := n3_; clear n0_ n1_ n2_ n3_; (try clear hb); (try clear hb2); (try clear hk); (try clear hi); have hnb70 := NB314_319.out; have hnc70 := NB319_314.out; have hcz71_0 : w69.cell? ⟨gb314, 0, none⟩ = some (.int .i64 t310) := (blk_cell BK314.out 0).trans rfl; have hcz71_1 : w69.cell? ⟨gb314, 1, none⟩ = some (.int .i64 t311) := (blk_cell BK314.out 1).trans rfl; have hcz71_2 : w69.cell? ⟨gb314, 2, none⟩ = some (.int .i64 t312) := (blk_cell BK314.out 2).trans rfl; have hfz71_0 := blk_frozen BK314.out 0; have hfz71_1 := blk_frozen BK314.out 1; have hfz71_2 := blk_frozen BK314.out 2; have hcz72_0 : w69.cell? ⟨gb309, 0, none⟩ = some (.int .i64 t304) := (blk_cell BK309.out 0).trans rfl; have hcz72_1 : w69.cell? ⟨gb309, 1, none⟩ = some (.int .i64 t305) := (blk_cell BK309.out 1).trans rfl; have hcz72_2 : w69.cell? ⟨gb309, 2, none⟩ = some (.int .i64 t306) := (blk_cell BK309.out 2).trans rfl; have hfz72_0 := blk_frozen BK309.out 0; have hfz72_1 := blk_frozen BK309.out 1; have hfz72_2 := blk_frozen BK309.out 2))
                  go_ret
                  exact ⟨by first | rfl | (simp [errW_none, errW_some] <;> rfl) | (simp only [← hji54, ← hji55]; first | rfl | (simp [errW_none, errW_some] <;> rfl)) | (simp [*, errW_none, errW_some] <;> rfl), by repeat (first | (with_reducible first | exact HB.out | apply below_alloc | apply pw_below_drewN | apply below_drew1 | refine below_set ?_ GE309.out | refine below_set ?_ GE314.out | refine below_set ?_ GE319.out) | exact HB.out)⟩
              · rw [if_neg c53] at H
                have c53b0 : (t311 == t305) = false := beq_eq_false_iff_ne.mpr c53
                have c53b1 : (t311 != t305) = true := bne_iff_ne.mpr c53
                obtain rfl := Option.some.inj H
                have hnb73 := NB309_314.out
                have hnc73 := NB314_309.out
                have hnb74 := NB309_319.out
                have hnc74 := NB319_309.out
                have hcz75_0 : wc.cell? ⟨gb309, 0, none⟩ = some (.int .i64 t304) := (blk_cell BK309.out 0).trans rfl
                have hcz75_1 : wc.cell? ⟨gb309, 1, none⟩ = some (.int .i64 t305) := (blk_cell BK309.out 1).trans rfl
                have hcz75_2 : wc.cell? ⟨gb309, 2, none⟩ = some (.int .i64 t306) := (blk_cell BK309.out 2).trans rfl
                have hfz75_0 := blk_frozen BK309.out 0
                have hfz75_1 := blk_frozen BK309.out 1
                have hfz75_2 := blk_frozen BK309.out 2
                go_wp2_with (first | ((with_reducible refine gate_callee (f := 18) rfl ?_); refine goesL_ (some 58) rfl rfl Try.func18 (by kernel_rfl) rfl #[.agg #[.int .i64 t304, .int .i64 t305, .int .i64 t306], .int .i64 t307] rfl (by (try simp only [List.map_toArray, List.map_cons, List.map_nil]); first | done | rfl | (simp only [List.length_drop, List.length_take]; rfl)) ?_; (with_reducible refine (impl_OffsetAt.calls t304 t305 t306 t307 t320 true _ A49.out).mono ?_); rintro e w76 ⟨rfl, hb⟩; refine ⟨_, rfl, ?_⟩; have n0_ := Aside0.mk (blk_below (g := gb309) (o := .cells #[.int .i64 t304, .int .i64 t305, .int .i64 t306] 25 (0, 0)) (by (with_reducible repeat (first | refine blk_drewN ?_ _ | refine blk_drew ?_ | refine blk_alloc ?_ _)); exact BK309.out) hb); have n1_ := Aside0.mk (blk_below (g := gb314) (o := .cells #[.int .i64 t310, .int .i64 t311, .int .i64 t312] 25 (0, 0)) (by (with_reducible repeat (first | refine blk_drewN ?_ _ | refine blk_drew ?_ | refine blk_alloc ?_ _)); exact BK314.out) hb); have n2_ := Aside0.mk (blk_below (g := gb319) (o := .cells #[.int .i64 t315, .int .i64 t316, .int .i64 t317] 25 (0, 0)) (by (with_reducible repeat (first | refine blk_drewN ?_ _ | refine blk_drew ?_ | refine blk_alloc ?_ _)); exact BK319.out) hb); have n3_ := Aside0.mk (below_step (by repeat (first | (with_reducible first | exact HB.out | apply below_alloc | apply pw_below_drewN | apply below_drew1 | refine below_set ?_ GE309.out | refine below_set ?_ GE314.out | refine below_set ?_ GE319.out) | exact HB.out)) hb); clear BK309; clear BK314; clear BK319; clear HB; have BK309 := n0_; have BK314 := n1_; have BK319 := n2_; have HB := n3_; clear n0_ n1_ n2_ n3_; (try clear hb); (try clear hb2); (try clear hk); (try clear hi)) | ((with_reducible refine gate_callee (f := 25) rfl ?_); refine goesL_ (some 62) rfl rfl Try.func25 (by kernel_rfl) rfl #[.int .i64 t308] rfl (by (try simp only [List.map_toArray, List.map_cons, List.map_nil]); first | done | rfl | (simp only [List.length_drop, List.length_take]; rfl)) ?_; (with_reducible refine (laws_size.calls t308 t322 _ A50.out).mono ?_); rintro e w77 ⟨rfl, hb⟩; refine ⟨_, rfl, ?_⟩; have n0_ := Aside0.mk (blk_below (g := gb309) (o := .cells #[.int .i64 t304, .int .i64 t305, .int .i64 t306] 25 (0, 0)) (by (with_reducible repeat (first | refine blk_drewN ?_ _ | refine blk_drew ?_ | refine blk_alloc ?_ _)); exact BK309.out) hb); have n1_ := Aside0.mk (blk_below (g := gb314) (o := .cells #[.int .i64 t310, .int .i64 t311, .int .i64 t312] 25 (0, 0)) (by (with_reducible repeat (first | refine blk_drewN ?_ _ | refine blk_drew ?_ | refine blk_alloc ?_ _)); exact BK314.out) hb); have n2_ := Aside0.mk (blk_below (g := gb319) (o := .cells #[.int .i64 t315, .int .i64 t316, .int .i64 t317] 25 (0, 0)) (by (with_reducible repeat (first | refine blk_drewN ?_ _ | refine blk_drew ?_ | refine blk_alloc ?_ _)); exact BK319.out) hb); have n3_ := Aside0.mk (below_step (by repeat (first | (with_reducible first | exact HB.out | apply below_alloc | apply pw_below_drewN | apply below_drew1 | refine below_set ?_ GE309.out | refine below_set ?_ GE314.out | refine below_set ?_ GE319.out) | exact HB.out)) hb); clear BK309; clear BK314; clear BK319; clear HB; have BK309 := n0_; have BK314 := n1_; have BK319 := n2_; have HB := n3_; clear n0_ n1_ n2_ n3_; (try clear hb); (try clear hb2); (try clear hk); (try clear hi); have hnb78 := NB314_319.out; have hnc78 := NB319_314.out; have hcz79_0 : w77.cell? ⟨gb314, 0, none⟩ = some (.int .i64 t310) := (blk_cell BK314.out 0).trans rfl; have hcz79_1 : w77.cell? ⟨gb314, 1, none⟩ = some (.int .i64 t311) := (blk_cell BK314.out 1).trans rfl; have hcz79_2 : w77.cell? ⟨gb314, 2, none⟩ = some (.int .i64 t312) := (blk_cell BK314.out 2).trans rfl; have hfz79_0 := blk_frozen BK314.out 0; have hfz79_1 := blk_frozen BK314.out 1; have hfz79_2 := blk_frozen BK314.out 2; have hcz80_0 : w77.cell? ⟨gb309, 0, none⟩ = some (.int .i64 t304) := (blk_cell BK309.out 0).trans rfl; have hcz80_1 : w77.cell? ⟨gb309, 1, none⟩ = some (.int .i64 t305) := (blk_cell BK309.out 1).trans rfl; have hcz80_2 : w77.cell? ⟨gb309, 2, none⟩ = some (.int .i64 t306) := (blk_cell BK309.out 2).trans rfl; have hfz80_0 := blk_frozen BK309.out 0; have hfz80_1 := blk_frozen BK309.out 1; have hfz80_2 := blk_frozen BK309.out 2))
                go_ret
                exact ⟨by first | rfl | (simp [errW_none, errW_some] <;> rfl) | (simp [*, errW_none, errW_some] <;> rfl), by repeat (first | (with_reducible first | exact HB.out | apply below_alloc | apply pw_below_drewN | apply below_drew1 | refine below_set ?_ GE309.out | refine below_set ?_ GE314.out | refine below_set ?_ GE319.out) | exact HB.out)⟩
            · replace c52 := Bool.eq_false_iff.mpr c52
              subst c52
              have H1 : (some false) = some r := by rw [if_neg (show ¬ (false = true) by decide)] at H; exact H
              clear H
              have H := H1
              clear H1
              obtain rfl := Option.some.inj H
              have hnb81 := NB309_314.out
              have hnc81 := NB314_309.out
              have hnb82 := NB309_319.out
              have hnc82 := NB319_309.out
              have hcz83_0 : wc.cell? ⟨gb309, 0, none⟩ = some (.int .i64 t304) := (blk_cell BK309.out 0).trans rfl
              have hcz83_1 : wc.cell? ⟨gb309, 1, none⟩ = some (.int .i64 t305) := (blk_cell BK309.out 1).trans rfl
              have hcz83_2 : wc.cell? ⟨gb309, 2, none⟩ = some (.int .i64 t306) := (blk_cell BK309.out 2).trans rfl
              have hfz83_0 := blk_frozen BK309.out 0
              have hfz83_1 := blk_frozen BK309.out 1
              have hfz83_2 := blk_frozen BK309.out 2
              go_wp2_with (first | ((with_reducible refine gate_callee (f := 18) rfl ?_); refine goesL_ (some 58) rfl rfl Try.func18 (by kernel_rfl) rfl #[.agg #[.int .i64 t304, .int .i64 t305, .int .i64 t306], .int .i64 t307] rfl (by (try simp only [List.map_toArray, List.map_cons, List.map_nil]); first | done | rfl | (simp only [List.length_drop, List.length_take]; rfl)) ?_; (with_reducible refine (impl_OffsetAt.calls t304 t305 t306 t307 t320 false _ A49.out).mono ?_); rintro e w84 ⟨rfl, hb⟩; refine ⟨_, rfl, ?_⟩; have n0_ := Aside0.mk (blk_below (g := gb309) (o := .cells #[.int .i64 t304, .int .i64 t305, .int .i64 t306] 25 (0, 0)) (by (with_reducible repeat (first | refine blk_drewN ?_ _ | refine blk_drew ?_ | refine blk_alloc ?_ _)); exact BK309.out) hb); have n1_ := Aside0.mk (blk_below (g := gb314) (o := .cells #[.int .i64 t310, .int .i64 t311, .int .i64 t312] 25 (0, 0)) (by (with_reducible repeat (first | refine blk_drewN ?_ _ | refine blk_drew ?_ | refine blk_alloc ?_ _)); exact BK314.out) hb); have n2_ := Aside0.mk (blk_below (g := gb319) (o := .cells #[.int .i64 t315, .int .i64 t316, .int .i64 t317] 25 (0, 0)) (by (with_reducible repeat (first | refine blk_drewN ?_ _ | refine blk_drew ?_ | refine blk_alloc ?_ _)); exact BK319.out) hb); have n3_ := Aside0.mk (below_step (by repeat (first | (with_reducible first | exact HB.out | apply below_alloc | apply pw_below_drewN | apply below_drew1 | refine below_set ?_ GE309.out | refine below_set ?_ GE314.out | refine below_set ?_ GE319.out) | exact HB.out)) hb); clear BK309; clear BK314; clear BK319; clear HB; have BK309 := n0_; have BK314 := n1_; have BK319 := n2_; have HB := n3_; clear n0_ n1_ n2_ n3_; (try clear hb); (try clear hb2); (try clear hk); (try clear hi)) | ((with_reducible refine gate_callee (f := 25) rfl ?_); refine goesL_ (some 62) rfl rfl Try.func25 (by kernel_rfl) rfl #[.int .i64 t308] rfl (by (try simp only [List.map_toArray, List.map_cons, List.map_nil]); first | done | rfl | (simp only [List.length_drop, List.length_take]; rfl)) ?_; (with_reducible refine (laws_size.calls t308 t322 _ A50.out).mono ?_); rintro e w85 ⟨rfl, hb⟩; refine ⟨_, rfl, ?_⟩; have n0_ := Aside0.mk (blk_below (g := gb309) (o := .cells #[.int .i64 t304, .int .i64 t305, .int .i64 t306] 25 (0, 0)) (by (with_reducible repeat (first | refine blk_drewN ?_ _ | refine blk_drew ?_ | refine blk_alloc ?_ _)); exact BK309.out) hb); have n1_ := Aside0.mk (blk_below (g := gb314) (o := .cells #[.int .i64 t310, .int .i64 t311, .int .i64 t312] 25 (0, 0)) (by (with_reducible repeat (first | refine blk_drewN ?_ _ | refine blk_drew ?_ | refine blk_alloc ?_ _)); exact BK314.out) hb); have n2_ := Aside0.mk (blk_below (g := gb319) (o := .cells #[.int .i64 t315, .int .i64 t316, .int .i64 t317] 25 (0, 0)) (by (with_reducible repeat (first | refine blk_drewN ?_ _ | refine blk_drew ?_ | refine blk_alloc ?_ _)); exact BK319.out) hb); have n3_ := Aside0.mk (below_step (by repeat (first | (with_reducible first | exact HB.out | apply below_alloc | apply pw_below_drewN | apply below_drew1 | refine below_set ?_ GE309.out | refine below_set ?_ GE314.out | refine below_set ?_ GE319.out) | exact HB.out)) hb); clear BK309; clear BK314; clear BK319; clear HB; have BK309 := n0_; have BK314 := n1_; have BK319 := n2_; have HB := n3_; clear n0_ n1_ n2_ n3_; (try clear hb); (try clear hb2); (try clear hk); (try clear hi)))
              go_ret
              exact ⟨by first | rfl | (simp [errW_none, errW_some] <;> rfl) | (simp [*, errW_none, errW_some] <;> rfl), by repeat (first | (with_reducible first | exact HB.out | apply below_alloc | apply pw_below_drewN | apply below_drew1 | refine below_set ?_ GE309.out | refine below_set ?_ GE314.out | refine below_set ?_ GE319.out) | exact HB.out)⟩
          · rw [if_neg c51] at H
            have c51b0 : decide (128000 < t322) = false := decide_eq_false c51
            clear c51
            by_cases c86 : t321 = true
            · subst c86
              have H1 : (if t312 = t307 then ((laws_size.f (wrap64 (t320 - t310))).bind fun t323 => ((laws_size.f t308).bind fun t324 => (if t323 ≤ (wrap64 ((wrap64 (Int.tdiv t324 4)) + 1)) then (some true) else ((laws_size.f t320).bind fun t325 => (some (decide (t325 > 1000000))))))) else ((laws_size.f t320).bind fun t326 => (some (decide (t326 > 1000000))))) = some r := by rw [if_pos rfl] at H; exact H
              clear H
              have H := H1
              clear H1
              by_cases c87 : t312 = t307
              · rw [if_pos c87] at H
                have c87b0 : (t312 == t307) = true := beq_iff_eq.mpr c87
                have c87b1 : (t312 != t307) = false := bne_eq_false_iff_eq.mpr c87
                clear c87
                replace H := Option.bind_eq_some_iff.mp H
                obtain ⟨t323, A880, H⟩ := H
                replace H : ((laws_size.f t308).bind fun t324 => (if t323 ≤ (wrap64 ((wrap64 (Int.tdiv t324 4)) + 1)) then (some true) else ((laws_size.f t320).bind fun t325 => (some (decide (t325 > 1000000)))))) = some r := H
                have A88 := Aside0.mk A880
                clear A880
                replace H := Option.bind_eq_some_iff.mp H
                obtain ⟨t324, A890, H⟩ := H
                replace H : (if t323 ≤ (wrap64 ((wrap64 (Int.tdiv t324 4)) + 1)) then (some true) else ((laws_size.f t320).bind fun t325 => (some (decide (t325 > 1000000))))) = some r := H
                have A89 := Aside0.mk A890
                clear A890
                by_cases c90 : t323 ≤ (wrap64 ((wrap64 (Int.tdiv t324 4)) + 1))
                · rw [if_pos c90] at H
                  have c90b0 : decide (t323 ≤ (wrap64 ((wrap64 (Int.tdiv t324 4)) + 1))) = true := decide_eq_true c90
                  clear c90
                  obtain rfl := Option.some.inj H
                  have hnb91 := NB309_314.out
                  have hnc91 := NB314_309.out
                  have hnb92 := NB309_319.out
                  have hnc92 := NB319_309.out
                  have hcz93_0 : wc.cell? ⟨gb309, 0, none⟩ = some (.int .i64 t304) := (blk_cell BK309.out 0).trans rfl
                  have hcz93_1 : wc.cell? ⟨gb309, 1, none⟩ = some (.int .i64 t305) := (blk_cell BK309.out 1).trans rfl
                  have hcz93_2 : wc.cell? ⟨gb309, 2, none⟩ = some (.int .i64 t306) := (blk_cell BK309.out 2).trans rfl
                  have hfz93_0 := blk_frozen BK309.out 0
                  have hfz93_1 := blk_frozen BK309.out 1
                  have hfz93_2 := blk_frozen BK309.out 2
                  go_wp2_with (first | ((with_reducible refine gate_callee (f := 18) rfl ?_); refine goesL_ (some 58) rfl rfl Try.func18 (by kernel_rfl) rfl #[.agg #[.int .i64 t304, .int .i64 t305, .int .i64 t306], .int .i64 t307] rfl (by (try simp only [List.map_toArray, List.map_cons, List.map_nil]); first | done | rfl | (simp only [List.length_drop, List.length_take]; rfl)) ?_; (with_reducible refine (impl_OffsetAt.calls t304 t305 t306 t307 t320 true _ A49.out).mono ?_); rintro e w94 ⟨rfl, hb⟩; refine ⟨_, rfl, ?_⟩; have n0_ := Aside0.mk (blk_below (g := gb309) (o := .cells #[.int .i64 t304, .int .i64 t305, .int .i64 t306] 25 (0, 0)) (by (with_reducible repeat (first | refine blk_drewN ?_ _ | refine blk_drew ?_ | refine blk_alloc ?_ _)); exact BK309.out) hb); have n1_ := Aside0.mk (blk_below (g := gb314) (o := .cells #[.int .i64 t310, .int .i64 t311, .int .i64 t312] 25 (0, 0)) (by (with_reducible repeat (first | refine blk_drewN ?_ _ | refine blk_drew ?_ | refine blk_alloc ?_ _)); exact BK314.out) hb); have n2_ := Aside0.mk (blk_below (g := gb319) (o := .cells #[.int .i64 t315, .int .i64 t316, .int .i64 t317] 25 (0, 0)) (by (with_reducible repeat (first | refine blk_drewN ?_ _ | refine blk_drew ?_ | refine blk_alloc ?_ _)); exact BK319.out) hb); have n3_ := Aside0.mk (below_step (by repeat (first | (with_reducible first | exact HB.out | apply below_alloc | apply pw_below_drewN | apply below_drew1 | refine below_set ?_ GE309.out | refine below_set ?_ GE314.out | refine below_set ?_ GE319.out) | exact HB.out)) hb); clear BK309; clear BK314; clear BK319; clear HB; have BK309 := n0_; have BK314 := n1_; have BK319 := n2_; have HB := n3_; clear n0_ n1_ n2_ n3_; (try clear hb); (try clear hb2); (try clear hk); (try clear hi)) | ((with_reducible refine gate_callee (f := 25) rfl ?_); refine goesL_ (some 62) rfl rfl Try.func25 (by kernel_rfl) rfl #[.int .i64 t308] rfl (by (try simp only [List.map_toArray, List.map_cons, List.map_nil]); first | done | rfl | (simp only [List.length_drop, List.length_take]; rfl)) ?_; (with_reducible refine (laws_size.calls t308 t322 _ A50.out).mono ?_); rintro e w95 ⟨rfl, hb⟩; refine ⟨_, rfl, ?_⟩; have n0_ := Aside0.mk (blk_below (g := gb309) (o := .cells #[.int .i64 t304, .int .i64 t305, .int .i64 t306] 25 (0, 0)) (by (with_reducible repeat (first | refine blk_drewN ?_ _ | refine blk_drew ?_ | refine blk_alloc ?_ _)); exact BK309.out) hb); have n1_ := Aside0.mk (blk_below (g := gb314) (o := .cells #[.int .i64 t310, .int .i64 t311, .int .i64 t312] 25 (0, 0)) (by (with_reducible repeat (first | refine blk_drewN ?_ _ | refine blk_drew ?_ | refine blk_alloc ?_ _)); exact BK314.out) hb); have n2_ := Aside0.mk (blk_below (g := gb319) (o := .cells #[.int .i64 t315, .int .i64 t316, .int .i64 t317] 25 (0, 0)) (by (with_reducible repeat (first | refine blk_drewN ?_ _ | refine blk_drew ?_ | refine blk_alloc ?_ _)); exact BK319.out) hb); have n3_ := Aside0.mk (below_step (by repeat (first | (with_reducible first | exact HB.out | apply below_alloc | apply pw_below_drewN | apply below_drew1 | refine below_set ?_ GE309.out | refine below_set ?_ GE314.out | refine below_set ?_ GE319.out) | exact HB.out)) hb); clear BK309; clear BK314; clear BK319; clear HB; have BK309 := n0_; have BK314 := n1_; have BK319 := n2_; have HB := n3_; clear n0_ n1_ n2_ n3_; (try clear hb); (try clear hb2); (try clear hk); (try clear hi); have hnb96 := NB314_319.out; have hnc96 := NB319_314.out; have hcz97_0 : w95.cell? ⟨gb314, 0, none⟩ = some (.int .i64 t310) := (blk_cell BK314.out 0).trans rfl; have hcz97_1 : w95.cell? ⟨gb314, 1, none⟩ = some (.int .i64 t311) := (blk_cell BK314.out 1).trans rfl; have hcz97_2 : w95.cell? ⟨gb314, 2, none⟩ = some (.int .i64 t312) := (blk_cell BK314.out 2).trans rfl; have hfz97_0 := blk_frozen BK314.out 0; have hfz97_1 := blk_frozen BK314.out 1; have hfz97_2 := blk_frozen BK314.out 2) | (go_at_call 25; (with_reducible refine (laws_size.calls (wrap64 (t320 - t310)) t323 _ A88.out).mono ?_); rintro e w98 ⟨rfl, hb⟩; have n0_ := Aside0.mk (blk_below (g := gb309) (o := .cells #[.int .i64 t304, .int .i64 t305, .int .i64 t306] 25 (0, 0)) (by (with_reducible repeat (first | refine blk_drewN ?_ _ | refine blk_drew ?_ | refine blk_alloc ?_ _)); exact BK309.out) hb); have n1_ := Aside0.mk (blk_below (g := gb314) (o := .cells #[.int .i64 t310, .int .i64 t311, .int .i64 t312] 25 (0, 0)) (by (with_reducible repeat (first | refine blk_drewN ?_ _ | refine blk_drew ?_ | refine blk_alloc ?_ _)); exact BK314.out) hb); have n2_ := Aside0.mk (blk_below (g := gb319) (o := .cells #[.int .i64 t315, .int .i64 t316, .int .i64 t317] 25 (0, 0)) (by (with_reducible repeat (first | refine blk_drewN ?_ _ | refine blk_drew ?_ | refine blk_alloc ?_ _)); exact BK319.out) hb); have n3_ := Aside0.mk (below_step (by repeat (first | (with_reducible first | exact HB.out | apply below_alloc | apply pw_below_drewN | apply below_drew1 | refine below_set ?_ GE309.out | refine below_set ?_ GE314.out | refine below_set ?_ GE319.out) | exact HB.out)) hb); clear BK309; clear BK314; clear BK319; clear HB; have BK309 := n0_; have BK314 := n1_; have BK319 := n2_; have HB := n3_; clear n0_ n1_ n2_ n3_; (try clear hb); (try clear hb2); (try clear hk); (try clear hi)) | (go_at_call 25; (with_reducible refine (laws_size.calls t308 t324 _ A89.out).mono ?_); rintro e w99 ⟨rfl, hb⟩; have n0_ := Aside0.mk (blk_below (g := gb309) (o := .cells #[.int .i64 t304, .int .i64 t305, .int .i64 t306] 25 (0, 0)) (by (with_reducible repeat (first | refine blk_drewN ?_ _ | refine blk_drew ?_ | refine blk_alloc ?_ _)); exact BK309.out) hb); have n1_ := Aside0.mk (blk_below (g := gb314) (o := .cells #[.int .i64 t310, .int .i64 t311, .int .i64 t312] 25 (0, 0)) (by (with_reducible repeat (first | refine blk_drewN ?_ _ | refine blk_drew ?_ | refine blk_alloc ?_ _)); exact BK314.out) hb); have n2_ := Aside0.mk (blk_below (g := gb319) (o := .cells #[.int .i64 t315, .int .i64 t316, .int .i64 t317] 25 (0, 0)) (by (with_reducible repeat (first | refine blk_drewN ?_ _ | refine blk_drew ?_ | refine blk_alloc ?_ _)); exact BK319.out) hb); have n3_ := Aside0.mk (below_step (by repeat (first | (with_reducible first | exact HB.out | apply below_alloc | apply pw_below_drewN | apply below_drew1 | refine below_set ?_ GE309.out | refine below_set ?_ GE314.out | refine below_set ?_ GE319.out) | exact HB.out)) hb); clear BK309; clear BK314; clear BK319; clear HB; have BK309 := n0_; have BK314 := n1_; have BK319 := n2_; have HB := n3_; clear n0_ n1_ n2_ n3_; (try clear hb); (try clear hb2); (try clear hk); (try clear hi)))
                  go_ret
                  exact ⟨by first | rfl | (simp [errW_none, errW_some] <;> rfl) | (simp [*, errW_none, errW_some] <;> rfl), by repeat (first | (with_reducible first | exact HB.out | apply below_alloc | apply pw_below_drewN | apply below_drew1 | refine below_set ?_ GE309.out | refine below_set ?_ GE314.out | refine below_set ?_ GE319.out) | exact HB.out)⟩
                · rw [if_neg c90] at H
                  have c90b0 : decide (t323 ≤ (wrap64 ((wrap64 (Int.tdiv t324 4)) + 1))) = false := decide_eq_false c90
                  clear c90
                  replace H := Option.bind_eq_some_iff.mp H
                  obtain ⟨t325, A1000, H⟩ := H
                  replace H : (some (decide (t325 > 1000000))) = some r := H
                  have A100 := Aside0.mk A1000
                  clear A1000
                  obtain rfl := Option.some.inj H
                  have hnb101 := NB309_314.out
                  have hnc101 := NB314_309.out
                  have hnb102 := NB309_319.out
                  have hnc102 := NB319_309.out
                  have hcz103_0 : wc.cell? ⟨gb309, 0, none⟩ = some (.int .i64 t304) := (blk_cell BK309.out 0).trans rfl
                  have hcz103_1 : wc.cell? ⟨gb309, 1, none⟩ = some (.int .i64 t305) := (blk_cell BK309.out 1).trans rfl
                  have hcz103_2 : wc.cell? ⟨gb309, 2, none⟩ = some (.int .i64 t306) := (blk_cell BK309.out 2).trans rfl
                  have hfz103_0 := blk_frozen BK309.out 0
                  have hfz103_1 := blk_frozen BK309.out 1
                  have hfz103_2 := blk_frozen BK309.out 2
                  go_wp2_with (first | ((with_reducible refine gate_callee (f := 18) rfl ?_); refine goesL_ (some 58) rfl rfl Try.func18 (by kernel_rfl) rfl #[.agg #[.int .i64 t304, .int .i64 t305, .int .i64 t306], .int .i64 t307] rfl (by (try simp only [List.map_toArray, List.map_cons, List.map_nil]); first | done | rfl | (simp only [List.length_drop, List.length_take]; rfl)) ?_; (with_reducible refine (impl_OffsetAt.calls t304 t305 t306 t307 t320 true _ A49.out).mono ?_); rintro e w104 ⟨rfl, hb⟩; refine ⟨_, rfl, ?_⟩; have n0_ := Aside0.mk (blk_below (g := gb309) (o := .cells #[.int .i64 t304, .int .i64 t305, .int .i64 t306] 25 (0, 0)) (by (with_reducible repeat (first | refine blk_drewN ?_ _ | refine blk_drew ?_ | refine blk_alloc ?_ _)); exact BK309.out) hb); have n1_ := Aside0.mk (blk_below (g := gb314) (o := .cells #[.int .i64 t310, .int .i64 t311, .int .i64 t312] 25 (0, 0)) (by (with_reducible repeat (first | refine blk_drewN ?_ _ | refine blk_drew ?_ | refine blk_alloc ?_ _)); exact BK314.out) hb); have n2_ := Aside0.mk (blk_below (g := gb319) (o := .cells #[.int .i64 t315, .int .i64 t316, .int .i64 t317] 25 (0, 0)) (by (with_reducible repeat (first | refine blk_drewN ?_ _ | refine blk_drew ?_ | refine blk_alloc ?_ _)); exact BK319.out) hb); have n3_ := Aside0.mk (below_step (by repeat (first | (with_reducible first | exact HB.out | apply below_alloc | apply pw_below_drewN | apply below_drew1 | refine below_set ?_ GE309.out | refine below_set ?_ GE314.out | refine below_set ?_ GE319.out) | exact HB.out)) hb); clear BK309; clear BK314; clear BK319; clear HB; have BK309 := n0_; have BK314 := n1_; have BK319 := n2_; have HB := n3_; clear n0_ n1_ n2_ n3_; (try clear hb); (try clear hb2); (try clear hk); (try clear hi)) | ((with_reducible refine gate_callee (f := 25) rfl ?_); refine goesL_ (some 62) rfl rfl Try.func25 (by kernel_rfl) rfl #[.int .i64 t308] rfl (by (try simp only [List.map_toArray, List.map_cons, List.map_nil]); first | done | rfl | (simp only [List.length_drop, List.length_take]; rfl)) ?_; (with_reducible refine (laws_size.calls t308 t322 _ A50.out).mono ?_); rintro e w105 ⟨rfl, hb⟩; refine ⟨_, rfl, ?_⟩; have n0_ := Aside0.mk (blk_below (g := gb309) (o := .cells #[.int .i64 t304, .int .i64 t305, .int .i64 t306] 25 (0, 0)) (by (with_reducible repeat (first | refine blk_drewN ?_ _ | refine blk_drew ?_ | refine blk_alloc ?_ _)); exact BK309.out) hb); have n1_ := Aside0.mk (blk_below (g := gb314) (o := .cells #[.int .i64 t310, .int .i64 t311, .int .i64 t312] 25 (0, 0)) (by (with_reducible repeat (first | refine blk_drewN ?_ _ | refine blk_drew ?_ | refine blk_alloc ?_ _)); exact BK314.out) hb); have n2_ := Aside0.mk (blk_below (g := gb319) (o := .cells #[.int .i64 t315, .int .i64 t316, .int .i64 t317] 25 (0, 0)) (by (with_reducible repeat (first | refine blk_drewN ?_ _ | refine blk_drew ?_ | refine blk_alloc ?_ _)); exact BK319.out) hb); have n3_ := Aside0.mk (below_step (by repeat (first | (with_reducible first | exact HB.out | apply below_alloc | apply pw_below_drewN | apply below_drew1 | refine below_set ?_ GE309.out | refine below_set ?_ GE314.out | refine below_set ?_ GE319.out) | exact HB.out)) hb); clear BK309; clear BK314; clear BK319; clear HB; have BK309 := n0_; have BK314 := n1_; have BK319 := n2_; have HB := n3_; clear n0_ n1_ n2_ n3_; (try clear hb); (try clear hb2); (try clear hk); (try clear hi); have hnb106 := NB314_319.out; have hnc106 := NB319_314.out; have hcz107_0 : w105.cell? ⟨gb314, 0, none⟩ = some (.int .i64 t310) := (blk_cell BK314.out 0).trans rfl; have hcz107_1 : w105.cell? ⟨gb314, 1, none⟩ = some (.int .i64 t311) := (blk_cell BK314.out 1).trans rfl; have hcz107_2 : w105.cell? ⟨gb314, 2, none⟩ = some (.int .i64 t312) := (blk_cell BK314.out 2).trans rfl; have hfz107_0 := blk_frozen BK314.out 0; have hfz107_1 := blk_frozen BK314.out 1; have hfz107_2 := blk_frozen BK314.out 2) | (go_at_call 25; (with_reducible refine (laws_size.calls (wrap64 (t320 - t310)) t323 _ A88.out).mono ?_); rintro e w108 ⟨rfl, hb⟩; have n0_ := Aside0.mk (blk_below (g := gb309) (o := .cells #[.int .i64 t304, .int .i64 t305, .int .i64 t306] 25 (0, 0)) (by (with_reducible repeat (first | refine blk_drewN ?_ _ | refine blk_drew ?_ | refine blk_alloc ?_ _)); exact BK309.out) hb); have n1_ := Aside0.mk (blk_below (g := gb314) (o := .cells #[.int .i64 t310, .int .i64 t311, .int .i64 t312] 25 (0, 0)) (by (with_reducible repeat (first | refine blk_drewN ?_ _ | refine blk_drew ?_ | refine blk_alloc ?_ _)); exact BK314.out) hb); have n2_ := Aside0.mk (blk_below (g := gb319) (o := .cells #[.int .i64 t315, .int .i64 t316, .int .i64 t317] 25 (0, 0)) (by (with_reducible repeat (first | refine blk_drewN ?_ _ | refine blk_drew ?_ | refine blk_alloc ?_ _)); exact BK319.out) hb); have n3_ := Aside0.mk (below_step (by repeat (first | (with_reducible first | exact HB.out | apply below_alloc | apply pw_below_drewN | apply below_drew1 | refine below_set ?_ GE309.out | refine below_set ?_ GE314.out | refine below_set ?_ GE319.out) | exact HB.out)) hb); clear BK309; clear BK314; clear BK319; clear HB; have BK309 := n0_; have BK314 := n1_; have BK319 := n2_; have HB := n3_; clear n0_ n1_ n2_ n3_; (try clear hb); (try clear hb2); (try clear hk); (try clear hi)) | (go_at_call 25; (with_reducible refine (laws_size.calls t308 t324 _ A89.out).mono ?_); rintro e w109 ⟨rfl, hb⟩; have n0_ := Aside0.mk (blk_below (g := gb309) (o := .cells #[.int .i64 t304, .int .i64 t305, .int .i64 t306] 25 (0, 0)) (by (with_reducible repeat (first | refine blk_drewN ?_ _ | refine blk_drew ?_ | refine blk_alloc ?_ _)); exact BK309.out) hb); have n1_ := Aside0.mk (blk_below (g := gb314) (o := .cells #[.int .i64 t310, .int .i64 t311, .int .i64 t312] 25 (0, 0)) (by (with_reducible repeat (first | refine blk_drewN ?_ _ | refine blk_drew ?_ | refine blk_alloc ?_ _)); exact BK314.out) hb); have n2_ := Aside0.mk (blk_below (g := gb319) (o := .cells #[.int .i64 t315, .int .i64 t316, .int .i64 t317] 25 (0, 0)) (by (with_reducible repeat (first | refine blk_drewN ?_ _ | refine blk_drew ?_ | refine blk_alloc ?_ _)); exact BK319.out) hb); have n3_ := Aside0.mk (below_step (by repeat (first | (with_reducible first | exact HB.out | apply below_alloc | apply pw_below_drewN | apply below_drew1 | refine below_set ?_ GE309.out | refine below_set ?_ GE314.out | refine below_set ?_ GE319.out) | exact HB.out)) hb); clear BK309; clear BK314; clear BK319; clear HB; have BK309 := n0_; have BK314 := n1_; have BK319 := n2_; have HB := n3_; clear n0_ n1_ n2_ n3_; (try clear hb); (try clear hb2); (try clear hk); (try clear hi)) | (go_at_call 25; (with_reducible refine (laws_size.calls t320 t325 _ A100.out).mono ?_); rintro e w110 ⟨rfl, hb⟩; have n0_ := Aside0.mk (blk_below (g := gb309) (o := .cells #[.int .i64 t304, .int .i64 t305, .int .i64 t306] 25 (0, 0)) (by (with_reducible repeat (first | refine blk_drewN ?_ _ | refine blk_drew ?_ | refine blk_alloc ?_ _)); exact BK309.out) hb); have n1_ := Aside0.mk (blk_below (g := gb314) (o := .cells #[.int .i64 t310, .int .i64 t311, .int .i64 t312] 25 (0, 0)) (by (with_reducible repeat (first | refine blk_drewN ?_ _ | refine blk_drew ?_ | refine blk_alloc ?_ _)); exact BK314.out) hb); have n2_ := Aside0.mk (blk_below (g := gb319) (o := .cells #[.int .i64 t315, .int .i64 t316, .int .i64 t317] 25 (0, 0)) (by (with_reducible repeat (first | refine blk_drewN ?_ _ | refine blk_drew ?_ | refine blk_alloc ?_ _)); exact BK319.out) hb); have n3_ := Aside0.mk (below_step (by repeat (first | (with_reducible first | exact HB.out | apply below_alloc | apply pw_below_drewN | apply below_drew1 | refine below_set ?_ GE309.out | refine below_set ?_ GE314.out | refine below_set ?_ GE319.out) | exact HB.out)) hb); clear BK309; clear BK314; clear BK319; clear HB; have BK309 := n0_; have BK314 := n1_; have BK319 := n2_; have HB := n3_; clear n0_ n1_ n2_ n3_; (try clear hb); (try clear hb2); (try clear hk); (try clear hi)))
                  go_ret
                  exact ⟨by first | rfl | (simp [errW_none, errW_some] <;> rfl) | (simp [*, errW_none, errW_some] <;> rfl), by repeat (first | (with_reducible first | exact HB.out | apply below_alloc | apply pw_below_drewN | apply below_drew1 | refine below_set ?_ GE309.out | refine below_set ?_ GE314.out | refine below_set ?_ GE319.out) | exact HB.out)⟩
              · rw [if_neg c87] at H
                have c87b0 : (t312 == t307) = false := beq_eq_false_iff_ne.mpr c87
                have c87b1 : (t312 != t307) = true := bne_iff_ne.mpr c87
                replace H := Option.bind_eq_some_iff.mp H
                obtain ⟨t326, A1110, H⟩ := H
                replace H : (some (decide (t326 > 1000000))) = some r := H
                have A111 := Aside0.mk A1110
                clear A1110
                obtain rfl := Option.some.inj H
                have hnb112 := NB309_314.out
                have hnc112 := NB314_309.out
                have hnb113 := NB309_319.out
                have hnc113 := NB319_309.out
                have hcz114_0 : wc.cell? ⟨gb309, 0, none⟩ = some (.int .i64 t304) := (blk_cell BK309.out 0).trans rfl
                have hcz114_1 : wc.cell? ⟨gb309, 1, none⟩ = some (.int .i64 t305) := (blk_cell BK309.out 1).trans rfl
                have hcz114_2 : wc.cell? ⟨gb309, 2, none⟩ = some (.int .i64 t306) := (blk_cell BK309.out 2).trans rfl
                have hfz114_0 := blk_frozen BK309.out 0
                have hfz114_1 := blk_frozen BK309.out 1
                have hfz114_2 := blk_frozen BK309.out 2
                go_wp2_with (first | ((with_reducible refine gate_callee (f := 18) rfl ?_); refine goesL_ (some 58) rfl rfl Try.func18 (by kernel_rfl) rfl #[.agg #[.int .i64 t304, .int .i64 t305, .int .i64 t306], .int .i64 t307] rfl (by (try simp only [List.map_toArray, List.map_cons, List.map_nil]); first | done | rfl | (simp only [List.length_drop, List.length_take]; rfl)) ?_; (with_reducible refine (impl_OffsetAt.calls t304 t305 t306 t307 t320 true _ A49.out).mono ?_); rintro e w115 ⟨rfl, hb⟩; refine ⟨_, rfl, ?_⟩; have n0_ := Aside0.mk (blk_below (g := gb309) (o := .cells #[.int .i64 t304, .int .i64 t305, .int .i64 t306] 25 (0, 0)) (by (with_reducible repeat (first | refine blk_drewN ?_ _ | refine blk_drew ?_ | refine blk_alloc ?_ _)); exact BK309.out) hb); have n1_ := Aside0.mk (blk_below (g := gb314) (o := .cells #[.int .i64 t310, .int .i64 t311, .int .i64 t312] 25 (0, 0)) (by (with_reducible repeat (first | refine blk_drewN ?_ _ | refine blk_drew ?_ | refine blk_alloc ?_ _)); exact BK314.out) hb); have n2_ := Aside0.mk (blk_below (g := gb319) (o := .cells #[.int .i64 t315, .int .i64 t316, .int .i64 t317] 25 (0, 0)) (by (with_reducible repeat (first | refine blk_drewN ?_ _ | refine blk_drew ?_ | refine blk_alloc ?_ _)); exact BK319.out) hb); have n3_ := Aside0.mk (below_step (by repeat (first | (with_reducible first | exact HB.out | apply below_alloc | apply pw_below_drewN | apply below_drew1 | refine below_set ?_ GE309.out | refine below_set ?_ GE314.out | refine below_set ?_ GE319.out) | exact HB.out)) hb); clear BK309; clear BK314; clear BK319; clear HB; have BK309 := n0_; have BK314 := n1_; have BK319 := n2_; have HB := n3_; clear n0_ n1_ n2_ n3_; (try clear hb); (try clear hb2); (try clear hk); (try clear hi)) | ((with_reducible refine gate_callee (f := 25) rfl ?_); refine goesL_ (some 62) rfl rfl Try.func25 (by kernel_rfl) rfl #[.int .i64 t308] rfl (by (try simp only [List.map_toArray, List.map_cons, List.map_nil]); first | done | rfl | (simp only [List.length_drop, List.length_take]; rfl)) ?_; (with_reducible refine (laws_size.calls t308 t322 _ A50.out).mono ?_); rintro e w116 ⟨rfl, hb⟩; refine ⟨_, rfl, ?_⟩; have n0_ := Aside0.mk (blk_below (g := gb309) (o := .cells #[.int .i64 t304, .int .i64 t305, .int .i64 t306] 25 (0, 0)) (by (with_reducible repeat (first | refine blk_drewN ?_ _ | refine blk_drew ?_ | refine blk_alloc ?_ _)); exact BK309.out) hb); have n1_ := Aside0.mk (blk_below (g := gb314) (o := .cells #[.int .i64 t310, .int .i64 t311, .int .i64 t312] 25 (0, 0)) (by (with_reducible repeat (first | refine blk_drewN ?_ _ | refine blk_drew ?_ | refine blk_alloc ?_ _)); exact BK314.out) hb); have n2_ := Aside0.mk (blk_below (g := gb319) (o := .cells #[.int .i64 t315, .int .i64 t316, .int .i64 t317] 25 (0, 0)) (by (with_reducible repeat (first | refine blk_drewN ?_ _ | refine blk_drew ?_ | refine blk_alloc ?_ _)); exact BK319.out) hb); have n3_ := Aside0.mk (below_step (by repeat (first | (with_reducible first | exact HB.out | apply below_alloc | apply pw_below_drewN | apply below_drew1 | refine below_set ?_ GE309.out | refine below_set ?_ GE314.out | refine below_set ?_ GE319.out) | exact HB.out)) hb); clear BK309; clear BK314; clear BK319; clear HB; have BK309 := n0_; have BK314 := n1_; have BK319 := n2_; have HB := n3_; clear n0_ n1_ n2_ n3_; (try clear hb); (try clear hb2); (try clear hk); (try clear hi); have hnb117 := NB314_319.out; have hnc117 := NB319_314.out; have hcz118_0 : w116.cell? ⟨gb314, 0, none⟩ = some (.int .i64 t310) := (blk_cell BK314.out 0).trans rfl; have hcz118_1 : w116.cell? ⟨gb314, 1, none⟩ = some (.int .i64 t311) := (blk_cell BK314.out 1).trans rfl; have hcz118_2 : w116.cell? ⟨gb314, 2, none⟩ = some (.int .i64 t312) := (blk_cell BK314.out 2).trans rfl; have hfz118_0 := blk_frozen BK314.out 0; have hfz118_1 := blk_frozen BK314.out 1; have hfz118_2 := blk_frozen BK314.out 2) | (go_at_call 25; (with_reducible refine (laws_size.calls t320 t326 _ A111.out).mono ?_); rintro e w119 ⟨rfl, hb⟩; have n0_ := Aside0.mk (blk_below (g := gb309) (o := .cells #[.int .i64 t304, .int .i64 t305, .int .i64 t306] 25 (0, 0)) (by (with_reducible repeat (first | refine blk_drewN ?_ _ | refine blk_drew ?_ | refine blk_alloc ?_ _)); exact BK309.out) hb); have n1_ := Aside0.mk (blk_below (g := gb314) (o := .cells #[.int .i64 t310, .int .i64 t311, .int .i64 t312] 25 (0, 0)) (by (with_reducible repeat (first | refine blk_drewN ?_ _ | refine blk_drew ?_ | refine blk_alloc ?_ _)); exact BK314.out) hb); have n2_ := Aside0.mk (blk_below (g := gb319) (o := .cells #[.int .i64 t315, .int .i64 t316, .int .i64 t317] 25 (0, 0)) (by (with_reducible repeat (first | refine blk_drewN ?_ _ | refine blk_drew ?_ | refine blk_alloc ?_ _)); exact BK319.out) hb); have n3_ := Aside0.mk (below_step (by repeat (first | (with_reducible first | exact HB.out | apply below_alloc | apply pw_below_drewN | apply below_drew1 | refine below_set ?_ GE309.out | refine below_set ?_ GE314.out | refine below_set ?_ GE319.out) | exact HB.out)) hb); clear BK309; clear BK314; clear BK319; clear HB; have BK309 := n0_; have BK314 := n1_; have BK319 := n2_; have HB := n3_; clear n0_ n1_ n2_ n3_; (try clear hb); (try clear hb2); (try clear hk); (try clear hi)))
                go_ret
                exact ⟨by first | rfl | (simp [errW_none, errW_some] <;> rfl) | (simp [*, errW_none, errW_some] <;> rfl), by repeat (first | (with_reducible first | exact HB.out | apply below_alloc | apply pw_below_drewN | apply below_drew1 | refine below_set ?_ GE309.out | refine below_set ?_ GE314.out | refine below_set ?_ GE319.out) | exact HB.out)⟩
            · replace c86 := Bool.eq_false_iff.mpr c86
              subst c86
              have H1 : (some false) = some r := by rw [if_neg (show ¬ (false = true) by decide)] at H; exact H
              clear H
              have H := H1
              clear H1
              obtain rfl := Option.some.inj H
              have hnb120 := NB309_314.out
              have hnc120 := NB314_309.out
              have hnb121 := NB309_319.out
              have hnc121 := NB319_309.out
              have hcz122_0 : wc.cell? ⟨gb309, 0, none⟩ = some (.int .i64 t304) := (blk_cell BK309.out 0).trans rfl
              have hcz122_1 : wc.cell? ⟨gb309, 1, none⟩ = some (.int .i64 t305) := (blk_cell BK309.out 1).trans rfl
              have hcz122_2 : wc.cell? ⟨gb309, 2, none⟩ = some (.int .i64 t306) := (blk_cell BK309.out 2).trans rfl
              have hfz122_0 := blk_frozen BK309.out 0
              have hfz122_1 := blk_frozen BK309.out 1
              have hfz122_2 := blk_frozen BK309.out 2
              go_wp2_with (first | ((with_reducible refine gate_callee (f := 18) rfl ?_); refine goesL_ (some 58) rfl rfl Try.func18 (by kernel_rfl) rfl #[.agg #[.int .i64 t304, .int .i64 t305, .int .i64 t306], .int .i64 t307] rfl (by (try simp only [List.map_toArray, List.map_cons, List.map_nil]); first | done | rfl | (simp only [List.length_drop, List.length_take]; rfl)) ?_; (with_reducible refine (impl_OffsetAt.calls t304 t305 t306 t307 t320 false _ A49.out).mono ?_); rintro e w123 ⟨rfl, hb⟩; refine ⟨_, rfl, ?_⟩; have n0_ := Aside0.mk (blk_below (g := gb309) (o := .cells #[.int .i64 t304, .int .i64 t305, .int .i64 t306] 25 (0, 0)) (by (with_reducible repeat (first | refine blk_drewN ?_ _ | refine blk_drew ?_ | refine blk_alloc ?_ _)); exact BK309.out) hb); have n1_ := Aside0.mk (blk_below (g := gb314) (o := .cells #[.int .i64 t310, .int .i64 t311, .int .i64 t312] 25 (0, 0)) (by (with_reducible repeat (first | refine blk_drewN ?_ _ | refine blk_drew ?_ | refine blk_alloc ?_ _)); exact BK314.out) hb); have n2_ := Aside0.mk (blk_below (g := gb319) (o := .cells #[.int .i64 t315, .int .i64 t316, .int .i64 t317] 25 (0, 0)) (by (with_reducible repeat (first | refine blk_drewN ?_ _ | refine blk_drew ?_ | refine blk_alloc ?_ _)); exact BK319.out) hb); have n3_ := Aside0.mk (below_step (by repeat (first | (with_reducible first | exact HB.out | apply below_alloc | apply pw_below_drewN | apply below_drew1 | refine below_set ?_ GE309.out | refine below_set ?_ GE314.out | refine below_set ?_ GE319.out) | exact HB.out)) hb); clear BK309; clear BK314; clear BK319; clear HB; have BK309 := n0_; have BK314 := n1_; have BK319 := n2_; have HB := n3_; clear n0_ n1_ n2_ n3_; (try clear hb); (try clear hb2); (try clear hk); (try clear hi)) | ((with_reducible refine gate_callee (f := 25) rfl ?_); refine goesL_ (some 62) rfl rfl Try.func25 (by kernel_rfl) rfl #[.int .i64 t308] rfl (by (try simp only [List.map_toArray, List.map_cons, List.map_nil]); first | done | rfl | (simp only [List.length_drop, List.length_take]; rfl)) ?_; (with_reducible refine (laws_size.calls t308 t322 _ A50.out).mono ?_); rintro e w124 ⟨rfl, hb⟩; refine ⟨_, rfl, ?_⟩; have n0_ := Aside0.mk (blk_below (g := gb309) (o := .cells #[.int .i64 t304, .int .i64 t305, .int .i64 t306] 25 (0, 0)) (by (with_reducible repeat (first | refine blk_drewN ?_ _ | refine blk_drew ?_ | refine blk_alloc ?_ _)); exact BK309.out) hb); have n1_ := Aside0.mk (blk_below (g := gb314) (o := .cells #[.int .i64 t310, .int .i64 t311, .int .i64 t312] 25 (0, 0)) (by (with_reducible repeat (first | refine blk_drewN ?_ _ | refine blk_drew ?_ | refine blk_alloc ?_ _)); exact BK314.out) hb); have n2_ := Aside0.mk (blk_below (g := gb319) (o := .cells #[.int .i64 t315, .int .i64 t316, .int .i64 t317] 25 (0, 0)) (by (with_reducible repeat (first | refine blk_drewN ?_ _ | refine blk_drew ?_ | refine blk_alloc ?_ _)); exact BK319.out) hb); have n3_ := Aside0.mk (below_step (by repeat (first | (with_reducible first | exact HB.out | apply below_alloc | apply pw_below_drewN | apply below_drew1 | refine below_set ?_ GE309.out | refine below_set ?_ GE314.out | refine below_set ?_ GE319.out) | exact HB.out)) hb); clear BK309; clear BK314; clear BK319; clear HB; have BK309 := n0_; have BK314 := n1_; have BK319 := n2_; have HB := n3_; clear n0_ n1_ n2_ n3_; (try clear hb); (try clear hb2); (try clear hk); (try clear hi)))
              go_ret
              exact ⟨by first | rfl | (simp [errW_none, errW_some] <;> rfl) | (simp [*, errW_none, errW_some] <;> rfl), by repeat (first | (with_reducible first | exact HB.out | apply below_alloc | apply pw_below_drewN | apply below_drew1 | refine below_set ?_ GE309.out | refine below_set ?_ GE314.out | refine below_set ?_ GE319.out) | exact HB.out)⟩

/-- THE ONE PURE STATEMENT of laws_FnStepClock: yours. -/
def laws_FnStepClock.Pure : Prop := ∀ (l0 : List Int), l0.length ≤ maxLen → l0.length * 1 ≤ 140737488351232 → (∀ x ∈ l0, (Lit.int .u8 x).wf = true) → ∃ k, laws_FnStepClock.f k l0 = some true
theorem laws_FnStepClock.walk (P : laws_FnStepClock.Pure) (a0 : Option Addr) (len0 cap0 : Nat) (z0 : List Int) (w : World) (w0 : (a0 = none ∧ len0 = 0 ∧ cap0 = 0 ∧ z0 = []) ∨ ∃ x, a0 = some x ∧ len0 ≤ cap0 ∧ cap0 ≤ maxLen ∧ z0.length = cap0 ∧ (∀ i, i < z0.length → w.cell? (x.add i) = some (.int .u8 (z0.getD i 0))) ∧ ∀ n ∈ z0, (Lit.int .u8 n).wf = true) (y0 : len0 * 1 ≤ 140737488351232) :
    Calls Try.prog 11 #[.slice a0 len0 cap0] w fun e w' => e = .returned (.bool true) ∧ Below w.heap.size w w' := by
  obtain ⟨l0, rfl, hr0, hm0, hw0, hc0⟩ := ReadsInt.ofRowC w0
  obtain ⟨k, h⟩ := P l0 hm0 y0 hw0
  refine (laws_FnStepClock.calls k _ _ l0 true w (Kd.C_of_reads (d := (0 : Int)) (h1 := fun _ => rfl) hr0) hc0 h).mono ?_
  rintro e w' ⟨rfl, hd⟩
  exact ⟨rfl, hd⟩

end Go.Proofs.Ytedmfipncmkfcaa.PAll
