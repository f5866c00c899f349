/- Contracts of the Go functions that this seat's laws reach: each call returns what the plain function beside it tells, and leaves what was there; no condition but that result. Written by a program of this session (pmore.py, over the kit's print). -/
import Derived.Test.YtmebkfcoadbakaaPAllx0
import Derived.Test.YtmebkfcoadbakaaPAllx1
import Derived.Test.YtmebkfcoadbakaaPAllx4
import Derived.Test.YtmebkfcoadbakaaPAllx5
import Derived.Test.YtmebkfcoadbakaaPAllx7
import Derived.Test.YtmebkfcoadbakaaPAllx10
namespace Go.Proofs.Ytmebkfcoadbakaa.PAll
open Go.RowKit Go.Proofs.YtmebkfcoadbakaaW.PrintWords Go.Proofs.YtmebkfcoadbakaaW.PrintLast Go.Proofs.YtmebkfcoadbakaaW.PrintMore
attribute [local go_sem] max2_int min2_int max_two min_two max_three min_three max_four min_four   -- for this text's walks alone
set_option linter.unusedVariables false
set_option linter.unusedSimpArgs false

attribute [local go_sem high] eqA26
/-! ### laws_FnRunClockNone: function 5 -/
def laws_FnRunClockNone.j0 : Nat → Bool → Bool → Bool → Int → Int → Int → Int → Int → Int → Int → Int → Int → Option (Bool)
 | 0, _, _, _, _, _, _, _, _, _, _, _, _ => none
 | k + 1, x6, x8, x43, x375000, x375001, x375002, x380000, x380001, x380002, x385000, x385001, x385002 => if x43 = true then (if (x380000 == x385000 && (x380001 == x385001 && (x380002 == x385002))) = true then (some (x6 == x8)) else (some false)) else ((impl_RunClock.f k x375000 x375001 x375002 ([] : List (S40))).bind fun bt386 => (if bt386.2.2.2 = true then (some (bt386.1 == x375000 && (bt386.2.1 == x375001 && (bt386.2.2.1 == x375002)))) else (some false)))
def laws_FnRunClockNone.f (k : Nat) (l0 : List Int) : Option (Bool) := if (l0.length : Int) > 1048576 then (some true) else ((spec_DrawRunClock.f k l0).bind fun bt368 => ((impl_RunClock.f k bt368.1 bt368.2.1 bt368.2.2.1 bt368.2.2.2).bind fun bt375 => ((spec_RunClock.f k bt368.1 bt368.2.1 bt368.2.2.1 bt368.2.2.2).bind fun bt380 => (if (!(bt375.1 == bt380.1) || (!(bt375.2.1 == bt380.2.1) || (!(bt375.2.2.1 == bt380.2.2.1)))) = true then (laws_FnRunClockNone.j0 k bt375.2.2.2 bt380.2.2.2 true bt368.1 bt368.2.1 bt368.2.2.1 bt375.1 bt375.2.1 bt375.2.2.1 bt380.1 bt380.2.1 bt380.2.2.1) else (if (bt375.2.2.2 != bt380.2.2.2) = true then (laws_FnRunClockNone.j0 k bt375.2.2.2 bt380.2.2.2 true bt368.1 bt368.2.1 bt368.2.2.1 bt375.1 bt375.2.1 bt375.2.2.1 bt380.1 bt380.2.1 bt380.2.2.1) else ((impl_ValidClock.f bt368.1 bt368.2.1 bt368.2.2.1).bind fun t385 => (laws_FnRunClockNone.j0 k bt375.2.2.2 bt380.2.2.2 (!t385) bt368.1 bt368.2.1 bt368.2.2.1 bt375.1 bt375.2.1 bt375.2.2.1 bt380.1 bt380.2.1 bt380.2.2.1)))))))
theorem laws_FnRunClockNone.mono_l : ∀ k, (∀ y0 y1 y2 y3 y4 y5 y6 y7 y8 y9 y10 y11, LeO (laws_FnRunClockNone.j0 k y0 y1 y2 y3 y4 y5 y6 y7 y8 y9 y10 y11) (laws_FnRunClockNone.j0 (k + 1) y0 y1 y2 y3 y4 y5 y6 y7 y8 y9 y10 y11))
 | 0 => fun _ _ _ _ _ _ _ _ _ _ _ _ r h => by simp [laws_FnRunClockNone.j0] at h
 | k + 1 => by
  have ih0 := laws_FnRunClockNone.mono_l k
  · intro y0 y1 y2 y3 y4 y5 y6 y7 y8 y9 y10 y11
    unfold laws_FnRunClockNone.j0
    repeat' first
    | (with_reducible exact ih0 _ _ _ _ _ _ _ _ _ _ _ _)
    | (with_reducible exact impl_RunClock.mono _ _ _ _ _)
    | (with_reducible exact spec_DrawRunClock.mono _ _)
    | (with_reducible exact spec_RunClock.mono _ _ _ _ _)
    | (with_reducible exact LeO.refl _)
    | (with_reducible exact LeO.none _)
    | (with_reducible refine LeO.ite ?_ ?_)
    | (with_reducible refine LeO.bind ?_ (fun _ => ?_))
    | exact ih0 _ _ _ _ _ _ _ _ _ _ _ _
    | exact impl_RunClock.mono _ _ _ _ _
    | exact spec_DrawRunClock.mono _ _
    | exact spec_RunClock.mono _ _ _ _ _
    | exact LeO.none _
    | refine LeO.ite ?_ ?_
    | refine LeO.bind ?_ (fun _ => ?_)
theorem laws_FnRunClockNone.mono : ∀ a0 k, LeO (laws_FnRunClockNone.f k a0) (laws_FnRunClockNone.f (k + 1) a0) := by
 intro a0 k
 have ih0 := laws_FnRunClockNone.mono_l k
 unfold laws_FnRunClockNone.f
 repeat' first
  | (with_reducible exact ih0 _ _ _ _ _ _ _ _ _ _ _ _)
  | (with_reducible exact impl_RunClock.mono _ _ _ _ _)
  | (with_reducible exact spec_DrawRunClock.mono _ _)
  | (with_reducible exact spec_RunClock.mono _ _ _ _ _)
  | (with_reducible exact LeO.refl _)
  | (with_reducible exact LeO.none _)
  | (with_reducible refine LeO.ite ?_ ?_)
  | (with_reducible refine LeO.bind ?_ (fun _ => ?_))
  | exact ih0 _ _ _ _ _ _ _ _ _ _ _ _
  | exact impl_RunClock.mono _ _ _ _ _
  | exact spec_DrawRunClock.mono _ _
  | exact spec_RunClock.mono _ _ _ _ _
  | exact LeO.none _
  | refine LeO.ite ?_ ?_
  | refine LeO.bind ?_ (fun _ => ?_)
set_option maxHeartbeats 8000000 in
set_option maxRecDepth 100000 in
theorem laws_FnRunClockNone.calls (k : Nat) (A0 : Option Addr) (c0 : Nat) (l0 : List Int) (r : Bool) (w : World) (hr0 : Kd.C (Kd.int .u8) w A0 l0.length l0) (hc0 : l0.length ≤ c0) (h : laws_FnRunClockNone.f k l0 = some r) :
 Calls Try.prog 5 #[.slice A0 l0.length c0] w fun e w' => e = .returned (.bool r) ∧ Below w.heap.size w w' := by
 have hu26 := Try.underlying26
 have HR0 := Aside0.mk hr0
 have HC0 := Aside0.mk hc0
 clear hr0 hc0
 have HB := Aside0.mk (Below.refl w.heap.size w)
 have H : (if (l0.length : Int) > 1048576 then (some true) else ((spec_DrawRunClock.f k l0).bind fun bt368 => ((impl_RunClock.f k bt368.1 bt368.2.1 bt368.2.2.1 bt368.2.2.2).bind fun bt375 => ((spec_RunClock.f k bt368.1 bt368.2.1 bt368.2.2.1 bt368.2.2.2).bind fun bt380 => (if (!(bt375.1 == bt380.1) || (!(bt375.2.1 == bt380.2.1) || (!(bt375.2.2.1 == bt380.2.2.1)))) = true then (laws_FnRunClockNone.j0 k bt375.2.2.2 bt380.2.2.2 true bt368.1 bt368.2.1 bt368.2.2.1 bt375.1 bt375.2.1 bt375.2.2.1 bt380.1 bt380.2.1 bt380.2.2.1) else (if (bt375.2.2.2 != bt380.2.2.2) = true then (laws_FnRunClockNone.j0 k bt375.2.2.2 bt380.2.2.2 true bt368.1 bt368.2.1 bt368.2.2.1 bt375.1 bt375.2.1 bt375.2.2.1 bt380.1 bt380.2.1 bt380.2.2.1) else ((impl_ValidClock.f bt368.1 bt368.2.1 bt368.2.2.1).bind fun t385 => (laws_FnRunClockNone.j0 k bt375.2.2.2 bt380.2.2.2 (!t385) bt368.1 bt368.2.1 bt368.2.2.1 bt375.1 bt375.2.1 bt375.2.2.1 bt380.1 bt380.2.1 bt380.2.2.1)))))))) = some r := h
 clear h
 by_cases c2 : (l0.length : Int) > 1048576
 · rw [if_pos c2] at H
   have c2b0 : decide (1048576 < (l0.length : Int)) = true := decide_eq_true c2
   have c2b1 : decide (1048576 < l0.length) = true := decide_eq_true (by omega)
   clear c2
   obtain rfl := Option.some.inj H
   go_enter Try.func5, Try.ntmps5
   go_wp2
   go_ret
   exact ⟨by first | rfl | (simp [errW_none, errW_some] <;> rfl) | (simp [*, errW_none, errW_some] <;> rfl), by repeat (first | (with_reducible first | exact HB.out | apply below_alloc | apply pw_below_drewN | apply below_drew1) | exact HB.out)⟩
 · rw [if_neg c2] at H
   have c2b0 : decide (1048576 < (l0.length : Int)) = false := decide_eq_false c2
   have c2b1 : decide (1048576 < l0.length) = false := decide_eq_false (by omega)
   clear c2
   replace H := Option.bind_eq_some_iff.mp H
   obtain ⟨⟨t368, t369, t370, t371⟩, A30, H⟩ := H
   replace H : ((impl_RunClock.f k t368 t369 t370 t371).bind fun bt375 => ((spec_RunClock.f k t368 t369 t370 t371).bind fun bt380 => (if (!(bt375.1 == bt380.1) || (!(bt375.2.1 == bt380.2.1) || (!(bt375.2.2.1 == bt380.2.2.1)))) = true then (laws_FnRunClockNone.j0 k bt375.2.2.2 bt380.2.2.2 true t368 t369 t370 bt375.1 bt375.2.1 bt375.2.2.1 bt380.1 bt380.2.1 bt380.2.2.1) else (if (bt375.2.2.2 != bt380.2.2.2) = true then (laws_FnRunClockNone.j0 k bt375.2.2.2 bt380.2.2.2 true t368 t369 t370 bt375.1 bt375.2.1 bt375.2.2.1 bt380.1 bt380.2.1 bt380.2.2.1) else ((impl_ValidClock.f t368 t369 t370).bind fun t385 => (laws_FnRunClockNone.j0 k bt375.2.2.2 bt380.2.2.2 (!t385) t368 t369 t370 bt375.1 bt375.2.1 bt375.2.2.1 bt380.1 bt380.2.1 bt380.2.2.1)))))) = some r := H
   have A3 := Aside0.mk A30
   clear A30
   replace H := Option.bind_eq_some_iff.mp H
   obtain ⟨⟨t375, t376, t377, t378⟩, A40, H⟩ := H
   replace H : ((spec_RunClock.f k t368 t369 t370 t371).bind fun bt380 => (if (!(t375 == bt380.1) || (!(t376 == bt380.2.1) || (!(t377 == bt380.2.2.1)))) = true then (laws_FnRunClockNone.j0 k t378 bt380.2.2.2 true t368 t369 t370 t375 t376 t377 bt380.1 bt380.2.1 bt380.2.2.1) else (if (t378 != bt380.2.2.2) = true then (laws_FnRunClockNone.j0 k t378 bt380.2.2.2 true t368 t369 t370 t375 t376 t377 bt380.1 bt380.2.1 bt380.2.2.1) else ((impl_ValidClock.f t368 t369 t370).bind fun t385 => (laws_FnRunClockNone.j0 k t378 bt380.2.2.2 (!t385) t368 t369 t370 t375 t376 t377 bt380.1 bt380.2.1 bt380.2.2.1))))) = some r := H
   have A4 := Aside0.mk A40
   clear A40
   replace H := Option.bind_eq_some_iff.mp H
   obtain ⟨⟨t380, t381, t382, t383⟩, A50, H⟩ := H
   replace H : (if (!(t375 == t380) || (!(t376 == t381) || (!(t377 == t382)))) = true then (laws_FnRunClockNone.j0 k t378 t383 true t368 t369 t370 t375 t376 t377 t380 t381 t382) else (if (t378 != t383) = true then (laws_FnRunClockNone.j0 k t378 t383 true t368 t369 t370 t375 t376 t377 t380 t381 t382) else ((impl_ValidClock.f t368 t369 t370).bind fun t385 => (laws_FnRunClockNone.j0 k t378 t383 (!t385) t368 t369 t370 t375 t376 t377 t380 t381 t382)))) = some r := H
   have A5 := Aside0.mk A50
   clear A50
   have HC6 := Aside0.mk H
   clear H
   go_enter Try.func5, Try.ntmps5
   go_upto_region 6 with (first | ((with_reducible refine gate_callee (f := 14) rfl ?_); refine goesL_ (some 16) rfl rfl Try.func14 (by kernel_rfl) rfl #[.slice A0 l0.length c0] rfl (by (try simp only [List.map_toArray, List.map_cons, List.map_nil]); first | done | rfl | (simp only [List.length_drop, List.length_take]; rfl)) ?_; (with_reducible refine (spec_DrawRunClock.calls k _ _ l0 t368 t369 t370 t371 _ ?side1 ?side2 A3.out).mono ?_); (case side1 => repeat (first | exact HR0.out | (with_reducible refine Kd.C_alloc ?_ _) | (with_reducible refine Kd.C_drewN ?_ _) | (with_reducible refine Kd.C_drew ?_))); (case side2 => exact HC0.out); rintro e w7 ⟨v372, rfl, ho0, hb⟩; refine ⟨_, rfl, ?_⟩; have n0_ := Aside0.mk (Kd.R_lower ho0 (below_size (by repeat (first | (with_reducible first | exact HB.out | apply below_alloc | apply pw_below_drewN | apply below_drew1) | exact HB.out)))); have n1_ := Aside0.mk (below_step (by repeat (first | (with_reducible first | exact HB.out | apply below_alloc | apply pw_below_drewN | apply below_drew1) | exact HB.out)) hb); clear HB; have HO373 := n0_; have HB := n1_; clear n0_ n1_; (try clear hb); (try clear hb2); (try clear hk); (try clear hi); (try clear ho0)) | ((with_reducible refine gate_dst (N := 3) rfl ?_); refine box_event ?hg (N := 3) ?hd (cs := #[.int .i64 0, .int .i64 0, .int .i64 0]) (t := 26) ?hr ?_; (case hd => rfl); (case hg => rfl); (case hr => first | (go_simp; done) | (go_simp; rfl)); intro gb374 hg w8 hbox hb; have n0_ := Aside0.mk (Kd.R_below (by (with_reducible repeat (first | apply Kd.R_alloc | apply Kd.R_drewN | apply Kd.R_drew)); exact HO373.out) hb); have n1_ := Aside0.mk (below_step (by repeat (first | (with_reducible first | exact HB.out | apply below_alloc | apply pw_below_drewN | apply below_drew1) | exact HB.out)) hb); have n2_ := Aside0.mk (hbox); have n3_ := Aside0.mk ((by rw [hg]; exact (below_size (by repeat (first | (with_reducible first | exact HB.out | apply below_alloc | apply pw_below_drewN | apply below_drew1) | exact HB.out))) : w.heap.size ≤ gb374)); have n4_ := Aside0.mk ((by rw [hg]; exact (below_size (by repeat (first | (with_reducible first | exact HB.out | apply below_alloc | apply pw_below_drewN | apply below_drew1) | exact HB.out))) : w.heap.size ≤ gb374)); clear HO373; clear HB; have HO373 := n0_; have HB := n1_; have BK374 := n2_; have GW374 := n3_; have GE374 := n4_; clear n0_ n1_ n2_ n3_ n4_; clear hb hbox hg; have hcz9_0 : w8.cell? ⟨gb374, 0, none⟩ = some (.int .i64 0) := (blk_cell BK374.out 0).trans rfl; have hcz9_1 : w8.cell? ⟨gb374, 1, none⟩ = some (.int .i64 0) := (blk_cell BK374.out 1).trans rfl; have hcz9_2 : w8.cell? ⟨gb374, 2, none⟩ = some (.int .i64 0) := (blk_cell BK374.out 2).trans rfl; have hfz9_0 := blk_frozen BK374.out 0; have hfz9_1 := blk_frozen BK374.out 1; have hfz9_2 := blk_frozen BK374.out 2; obtain ⟨Ao10, co10, eo10⟩ := Kd.R_slice HO373.out; subst eo10) | ((with_reducible refine gate_callee (f := 11) rfl ?_); refine goesL_ (some 22) rfl rfl Try.func11 (by kernel_rfl) rfl #[.agg #[.int .i64 t368, .int .i64 t369, .int .i64 t370], .slice Ao10 t371.length co10] rfl (by (try simp only [List.map_toArray, List.map_cons, List.map_nil]); first | done | rfl | (simp only [List.length_drop, List.length_take]; rfl)) ?_; (with_reducible refine (impl_RunClock.calls k t368 t369 t370 _ _ t371 t375 t376 t377 t378 _ ?side1 ?side2 A4.out).mono ?_); (case side1 => refine (Kd.R_reads' (e := 40) (base := w.heap.size) (ok := fun k_ => True) (n := t371.length) (c := co10) ?_).2.2; exact (by (with_reducible repeat (first | apply Kd.R_alloc | apply Kd.R_drewN | apply Kd.R_drew)); exact (Kd.R_mono (Kd.R_far (p := ⟨gb374, 2, none⟩) (Kd.R_far (p := ⟨gb374, 1, none⟩) (Kd.R_far (p := ⟨gb374, 0, none⟩) (Kd.R_types HO373.out BK374.out (by decide)) (fun _ hk => hk.2) (.int .i64 t368)) (fun _ hk => hk.2) (.int .i64 t369)) (fun _ hk => hk.2) (.int .i64 t370)) (fun _ h_ => h_.1)))); (case side2 => exact (Kd.R_reads' HO373.out).2.1); rintro e w11 ⟨rfl, hb⟩; refine ⟨_, rfl, ?_⟩; have n0_ := Aside0.mk (Kd.R_below (by (with_reducible repeat (first | apply Kd.R_alloc | apply Kd.R_drewN | apply Kd.R_drew)); exact (Kd.R_mono (Kd.R_far (p := ⟨gb374, 2, none⟩) (Kd.R_far (p := ⟨gb374, 1, none⟩) (Kd.R_far (p := ⟨gb374, 0, none⟩) (Kd.R_types HO373.out BK374.out (by decide)) (fun _ hk => hk.2) (.int .i64 t368)) (fun _ hk => hk.2) (.int .i64 t369)) (fun _ hk => hk.2) (.int .i64 t370)) (fun _ h_ => h_.1))) hb); have n1_ := Aside0.mk (blk_below (g := gb374) (o := .cells #[.int .i64 t368, .int .i64 t369, .int .i64 t370] 26 (0, 0)) (by (with_reducible repeat (first | apply blk_drewN | apply blk_drew | apply blk_alloc)); refine blk_put (cs := #[.int .i64 t368, .int .i64 t369, .int .i64 0]) ?_ 2 _ rfl; (with_reducible repeat (first | apply blk_drewN | apply blk_drew | apply blk_alloc)); refine blk_put (cs := #[.int .i64 t368, .int .i64 0, .int .i64 0]) ?_ 1 _ rfl; (with_reducible repeat (first | apply blk_drewN | apply blk_drew | apply blk_alloc)); refine blk_put (cs := #[.int .i64 0, .int .i64 0, .int .i64 0]) ?_ 0 _ rfl; (with_reducible repeat (first | apply blk_drewN | apply blk_drew | apply blk_alloc)); exact BK374.out) hb); have n2_ := Aside0.mk (below_step (by repeat (first | (with_reducible first | exact HB.out | apply below_alloc | apply pw_below_drewN | apply below_drew1 | refine below_set ?_ GE374.out) | exact HB.out)) hb); clear HO373; clear BK374; clear HB; have HO373 := n0_; have BK374 := n1_; have HB := n2_; clear n0_ n1_ n2_; (try clear hb); (try clear hb2); (try clear hk); (try clear hi)) | ((with_reducible refine gate_dst (N := 5) rfl ?_); refine box_event ?hg (N := 5) ?hd (cs := #[.int .i64 0, .int .i64 0, .int .i64 0]) (t := 26) ?hr ?_; (case hd => rfl); (case hg => rfl); (case hr => first | (go_simp; done) | (go_simp; rfl)); intro gb379 hg w12 hbox hb; have n0_ := Aside0.mk (Kd.R_below (by (with_reducible repeat (first | apply Kd.R_alloc | apply Kd.R_drewN | apply Kd.R_drew)); exact HO373.out) hb); have n1_ := Aside0.mk (blk_below (g := gb374) (o := .cells #[.int .i64 t368, .int .i64 t369, .int .i64 t370] 26 (0, 0)) (by (with_reducible repeat (first | apply blk_drewN | apply blk_drew | apply blk_alloc)); exact BK374.out) hb); have n2_ := Aside0.mk (below_step (by repeat (first | (with_reducible first | exact HB.out | apply below_alloc | apply pw_below_drewN | apply below_drew1 | refine below_set ?_ GE374.out) | exact HB.out)) hb); have n3_ := Aside0.mk (hbox); have n4_ := Aside0.mk ((by rw [hg]; exact (below_size (by repeat (first | (with_reducible first | exact HB.out | apply below_alloc | apply pw_below_drewN | apply below_drew1 | refine below_set ?_ GE374.out) | exact HB.out))) : w.heap.size ≤ gb379)); have n5_ := Aside0.mk ((by rw [hg]; exact (below_size (by repeat (first | (with_reducible first | exact HB.out | apply below_alloc | apply pw_below_drewN | apply below_drew1 | refine below_set ?_ GE374.out) | exact HB.out))) : w.heap.size ≤ gb379)); have n6_ := Aside0.mk ((by rw [hg]; exact Nat.ne_of_lt (blk_lt (g := gb374) (o := .cells #[.int .i64 t368, .int .i64 t369, .int .i64 t370] 26 (0, 0)) (by (with_reducible repeat (first | apply blk_drewN | apply blk_drew | apply blk_alloc)); exact BK374.out)) : gb374 ≠ gb379)); have n7_ := Aside0.mk ((by rw [hg]; exact Nat.ne_of_gt (blk_lt (g := gb374) (o := .cells #[.int .i64 t368, .int .i64 t369, .int .i64 t370] 26 (0, 0)) (by (with_reducible repeat (first | apply blk_drewN | apply blk_drew | apply blk_alloc)); exact BK374.out)) : gb379 ≠ gb374)); clear HO373; clear BK374; clear HB; have HO373 := n0_; have BK374 := n1_; have HB := n2_; have BK379 := n3_; have GW379 := n4_; have GE379 := n5_; have NB374_379 := n6_; have NB379_374 := n7_; clear n0_ n1_ n2_ n3_ n4_ n5_ n6_ n7_; clear hb hbox hg; have hnb13 := NB379_374.out; have hnc13 := NB374_379.out; have hcz14_0 : w12.cell? ⟨gb379, 0, none⟩ = some (.int .i64 0) := (blk_cell BK379.out 0).trans rfl; have hcz14_1 : w12.cell? ⟨gb379, 1, none⟩ = some (.int .i64 0) := (blk_cell BK379.out 1).trans rfl; have hcz14_2 : w12.cell? ⟨gb379, 2, none⟩ = some (.int .i64 0) := (blk_cell BK379.out 2).trans rfl; have hfz14_0 := blk_frozen BK379.out 0; have hfz14_1 := blk_frozen BK379.out 1; have hfz14_2 := blk_frozen BK379.out 2; have hcz15_0 : w12.cell? ⟨gb374, 0, none⟩ = some (.int .i64 t368) := (blk_cell BK374.out 0).trans rfl; have hcz15_1 : w12.cell? ⟨gb374, 1, none⟩ = some (.int .i64 t369) := (blk_cell BK374.out 1).trans rfl; have hcz15_2 : w12.cell? ⟨gb374, 2, none⟩ = some (.int .i64 t370) := (blk_cell BK374.out 2).trans rfl; have hfz15_0 := blk_frozen BK374.out 0; have hfz15_1 := blk_frozen BK374.out 1; have hfz15_2 := blk_frozen BK374.out 2) | ((with_reducible refine gate_callee (f := 8) rfl ?_); refine goesL_ (some 28) rfl rfl Try.func8 (by kernel_rfl) rfl #[.agg #[.int .i64 t368, .int .i64 t369, .int .i64 t370], .slice Ao10 t371.length co10] rfl (by (try simp only [List.map_toArray, List.map_cons, List.map_nil]); first | done | rfl | (simp only [List.length_drop, List.length_take]; rfl)) ?_; (with_reducible refine (spec_RunClock.calls k t368 t369 t370 _ _ t371 t380 t381 t382 t383 _ ?side1 ?side2 A5.out).mono ?_); (case side1 => refine (Kd.R_reads' (e := 40) (base := w.heap.size) (ok := fun k_ => True) (n := t371.length) (c := co10) ?_).2.2; exact (by (with_reducible repeat (first | apply Kd.R_alloc | apply Kd.R_drewN | apply Kd.R_drew)); exact (Kd.R_mono (Kd.R_far (p := ⟨gb379, 2, none⟩) (Kd.R_far (p := ⟨gb379, 1, none⟩) (Kd.R_far (p := ⟨gb379, 0, none⟩) (Kd.R_types HO373.out BK379.out (by decide)) (fun _ hk => hk.2) (.int .i64 t375)) (fun _ hk => hk.2) (.int .i64 t376)) (fun _ hk => hk.2) (.int .i64 t377)) (fun _ h_ => h_.1)))); (case side2 => exact (Kd.R_reads' HO373.out).2.1); rintro e w16 ⟨rfl, hb⟩; refine ⟨_, rfl, ?_⟩; have n0_ := Aside0.mk (Kd.R_below (by (with_reducible repeat (first | apply Kd.R_alloc | apply Kd.R_drewN | apply Kd.R_drew)); exact (Kd.R_mono (Kd.R_far (p := ⟨gb379, 2, none⟩) (Kd.R_far (p := ⟨gb379, 1, none⟩) (Kd.R_far (p := ⟨gb379, 0, none⟩) (Kd.R_types HO373.out BK379.out (by decide)) (fun _ hk => hk.2) (.int .i64 t375)) (fun _ hk => hk.2) (.int .i64 t376)) (fun _ hk => hk.2) (.int .i64 t377)) (fun _ h_ => h_.1))) hb); have n1_ := Aside0.mk (blk_below (g := gb374) (o := .cells #[.int .i64 t368, .int .i64 t369, .int .i64 t370] 26 (0, 0)) (by (with_reducible repeat (first | apply blk_drewN | apply blk_drew | apply blk_alloc)); refine blk_far ?_ NB374_379.out _; (with_reducible repeat (first | apply blk_drewN | apply blk_drew | apply blk_alloc)); refine blk_far ?_ NB374_379.out _; (with_reducible repeat (first | apply blk_drewN | apply blk_drew | apply blk_alloc)); refine blk_far ?_ NB374_379.out _; (with_reducible repeat (first | apply blk_drewN | apply blk_drew | apply blk_alloc)); exact BK374.out) hb); have n2_ := Aside0.mk (blk_below (g := gb379) (o := .cells #[.int .i64 t375, .int .i64 t376, .int .i64 t377] 26 (0, 0)) (by (with_reducible repeat (first | apply blk_drewN | apply blk_drew | apply blk_alloc)); refine blk_put (cs := #[.int .i64 t375, .int .i64 t376, .int .i64 0]) ?_ 2 _ rfl; (with_reducible repeat (first | apply blk_drewN | apply blk_drew | apply blk_alloc)); refine blk_put (cs := #[.int .i64 t375, .int .i64 0, .int .i64 0]) ?_ 1 _ rfl; (with_reducible repeat (first | apply blk_drewN | apply blk_drew | apply blk_alloc)); refine blk_put (cs := #[.int .i64 0, .int .i64 0, .int .i64 0]) ?_ 0 _ rfl; (with_reducible repeat (first | apply blk_drewN | apply blk_drew | apply blk_alloc)); exact BK379.out) hb); have n3_ := Aside0.mk (below_step (by repeat (first | (with_reducible first | exact HB.out | apply below_alloc | apply pw_below_drewN | apply below_drew1 | refine below_set ?_ GE374.out | refine below_set ?_ GE379.out) | exact HB.out)) hb); clear HO373; clear BK374; clear BK379; clear HB; have HO373 := n0_; have BK374 := n1_; have BK379 := n2_; have HB := n3_; clear n0_ n1_ n2_ n3_; (try clear hb); (try clear hb2); (try clear hk); (try clear hi)) | ((with_reducible refine gate_dst (N := 7) rfl ?_); refine box_event ?hg (N := 7) ?hd (cs := #[.int .i64 0, .int .i64 0, .int .i64 0]) (t := 26) ?hr ?_; (case hd => rfl); (case hg => rfl); (case hr => first | (go_simp; done) | (go_simp; rfl)); intro gb384 hg w17 hbox hb; have n0_ := Aside0.mk (Kd.R_below (by (with_reducible repeat (first | apply Kd.R_alloc | apply Kd.R_drewN | apply Kd.R_drew)); exact HO373.out) hb); have n1_ := Aside0.mk (blk_below (g := gb374) (o := .cells #[.int .i64 t368, .int .i64 t369, .int .i64 t370] 26 (0, 0)) (by (with_reducible repeat (first | apply blk_drewN | apply blk_drew | apply blk_alloc)); exact BK374.out) hb); have n2_ := Aside0.mk (blk_below (g := gb379) (o := .cells #[.int .i64 t375, .int .i64 t376, .int .i64 t377] 26 (0, 0)) (by (with_reducible repeat (first | apply blk_drewN | apply blk_drew | apply blk_alloc)); exact BK379.out) hb); have n3_ := Aside0.mk (below_step (by repeat (first | (with_reducible first | exact HB.out | apply below_alloc | apply pw_below_drewN | apply below_drew1 | refine below_set ?_ GE374.out | refine below_set ?_ GE379.out) | exact HB.out)) hb); have n4_ := Aside0.mk (hbox); have n5_ := Aside0.mk ((by rw [hg]; exact (below_size (by repeat (first | (with_reducible first | exact HB.out | apply below_alloc | apply pw_below_drewN | apply below_drew1 | refine below_set ?_ GE374.out | refine below_set ?_ GE379.out) | exact HB.out))) : w.heap.size ≤ gb384)); have n6_ := Aside0.mk ((by rw [hg]; exact (below_size (by repeat (first | (with_reducible first | exact HB.out | apply below_alloc | apply pw_below_drewN | apply below_drew1 | refine below_set ?_ GE374.out | refine below_set ?_ GE379.out) | exact HB.out))) : w.heap.size ≤ gb384)); have n7_ := Aside0.mk ((by rw [hg]; exact Nat.ne_of_lt (blk_lt (g := gb374) (o := .cells #[.int .i64 t368, .int .i64 t369, .int .i64 t370] 26 (0, 0)) (by (with_reducible repeat (first | apply blk_drewN | apply blk_drew | apply blk_alloc)); exact BK374.out)) : gb374 ≠ gb384)); have n8_ := Aside0.mk ((by rw [hg]; exact Nat.ne_of_gt (blk_lt (g := gb374) (o := .cells #[.int .i64 t368, .int .i64 t369, .int .i64 t370] 26 (0, 0)) (by (with_reducible repeat (first | apply blk_drewN | apply blk_drew | apply blk_alloc)); exact BK374.out)) : gb384 ≠ gb374)); have n9_ := Aside0.mk ((by rw [hg]; exact Nat.ne_of_lt (blk_lt (g := gb379) (o := .cells #[.int .i64 t375, .int .i64 t376, .int .i64 t377] 26 (0, 0)) (by (with_reducible repeat (first | apply blk_drewN | apply blk_drew | apply blk_alloc)); exact BK379.out)) : gb379 ≠ gb384)); have n10_ := Aside0.mk ((by rw [hg]; exact Nat.ne_of_gt (blk_lt (g := gb379) (o := .cells #[.int .i64 t375, .int .i64 t376, .int .i64 t377] 26 (0, 0)) (by (with_reducible repeat (first | apply blk_drewN | apply blk_drew | apply blk_alloc)); exact BK379.out)) : gb384 ≠ gb379)); clear HO373; clear BK374; clear BK379; clear HB; have HO373 := n0_; have BK374 := n1_; have BK379 := n2_; have HB := n3_; have BK384 := n4_; have GW384 := n5_; have GE384 := n6_; have NB374_384 := n7_; have NB384_374 := n8_; have NB379_384 := n9_; have NB384_379 := n10_; clear n0_ n1_ n2_ n3_ n4_ n5_ n6_ n7_ n8_ n9_ n10_; clear hb hbox hg; have hnb18 := NB384_374.out; have hnc18 := NB374_384.out; have hnb19 := NB384_379.out; have hnc19 := NB379_384.out; have hcz20_0 : w17.cell? ⟨gb384, 0, none⟩ = some (.int .i64 0) := (blk_cell BK384.out 0).trans rfl; have hcz20_1 : w17.cell? ⟨gb384, 1, none⟩ = some (.int .i64 0) := (blk_cell BK384.out 1).trans rfl; have hcz20_2 : w17.cell? ⟨gb384, 2, none⟩ = some (.int .i64 0) := (blk_cell BK384.out 2).trans rfl; have hfz20_0 := blk_frozen BK384.out 0; have hfz20_1 := blk_frozen BK384.out 1; have hfz20_2 := blk_frozen BK384.out 2))
   (try simp only [Act.put, List.setIfInBounds_toArray, List.set_cons_zero, List.set_cons_succ])
   go_cut [43] (fun v43 wc => ∃ (kq : Nat) (x43_5 : Bool), v43 = .bool x43_5 ∧ Aside0 (laws_FnRunClockNone.j0 kq t378 t383 x43_5 t368 t369 t370 t375 t376 t377 t380 t381 t382 = some r) ∧ Aside0 (kq ≤ k) ∧ Aside0 (wc.heap[gb374]? = some (.cells #[.int .i64 t368, .int .i64 t369, .int .i64 t370] 26 (0, 0))) ∧ Aside0 (wc.heap[gb379]? = some (.cells #[.int .i64 t375, .int .i64 t376, .int .i64 t377] 26 (0, 0))) ∧ Aside0 (wc.heap[gb384]? = some (.cells #[.int .i64 t380, .int .i64 t381, .int .i64 t382] 26 (0, 0))) ∧ Aside0 (Below w.heap.size w wc))
   case first =>
    have H := HC6.out
    clear HC6
    by_cases c21 : (!(t375 == t380) || (!(t376 == t381) || (!(t377 == t382)))) = true
    · rw [if_pos c21] at H
      have c21b0 : (!(t375 == t380) || (!(t376 == t381) || (!(t377 == t382)))) = true := c21
      clear c21
      (first | rw [c21b0] | (simp only [i64_w, i32_w]; rw [c21b0]) | skip)
      have H' := Aside0.mk H
      clear H
      have hnb22 := NB379_374.out
      have hnc22 := NB374_379.out
      have hnb23 := NB379_384.out
      have hnc23 := NB384_379.out
      have hcz24_0 : w17.cell? ⟨gb379, 0, none⟩ = some (.int .i64 t375) := (blk_cell BK379.out 0).trans rfl
      have hcz24_1 : w17.cell? ⟨gb379, 1, none⟩ = some (.int .i64 t376) := (blk_cell BK379.out 1).trans rfl
      have hcz24_2 : w17.cell? ⟨gb379, 2, none⟩ = some (.int .i64 t377) := (blk_cell BK379.out 2).trans rfl
      have hfz24_0 := blk_frozen BK379.out 0
      have hfz24_1 := blk_frozen BK379.out 1
      have hfz24_2 := blk_frozen BK379.out 2
      have hnb25 := NB384_374.out
      have hnc25 := NB374_384.out
      have hcz26_0 : w17.cell? ⟨gb384, 0, none⟩ = some (.int .i64 0) := (blk_cell BK384.out 0).trans rfl
      have hcz26_1 : w17.cell? ⟨gb384, 1, none⟩ = some (.int .i64 0) := (blk_cell BK384.out 1).trans rfl
      have hcz26_2 : w17.cell? ⟨gb384, 2, none⟩ = some (.int .i64 0) := (blk_cell BK384.out 2).trans rfl
      have hfz26_0 := blk_frozen BK384.out 0
      have hfz26_1 := blk_frozen BK384.out 1
      have hfz26_2 := blk_frozen BK384.out 2
      go_wp2
      go_meet
      case rel => exact ⟨_, (true), (by first | rfl | (simp; done) | (simp [*]; done)), H', ⟨by first | omega | exact Nat.le_refl _⟩, ⟨by (with_reducible repeat (first | apply blk_drewN | apply blk_drew | apply blk_alloc)); refine blk_far ?_ NB374_384.out _; (with_reducible repeat (first | apply blk_drewN | apply blk_drew | apply blk_alloc)); refine blk_far ?_ NB374_384.out _; (with_reducible repeat (first | apply blk_drewN | apply blk_drew | apply blk_alloc)); refine blk_far ?_ NB374_384.out _; (with_reducible repeat (first | apply blk_drewN | apply blk_drew | apply blk_alloc)); exact BK374.out⟩, ⟨by (with_reducible repeat (first | apply blk_drewN | apply blk_drew | apply blk_alloc)); refine blk_far ?_ NB379_384.out _; (with_reducible repeat (first | apply blk_drewN | apply blk_drew | apply blk_alloc)); refine blk_far ?_ NB379_384.out _; (with_reducible repeat (first | apply blk_drewN | apply blk_drew | apply blk_alloc)); refine blk_far ?_ NB379_384.out _; (with_reducible repeat (first | apply blk_drewN | apply blk_drew | apply blk_alloc)); exact BK379.out⟩, ⟨by (with_reducible repeat (first | apply blk_drewN | apply blk_drew | apply blk_alloc)); refine blk_put (cs := #[.int .i64 t380, .int .i64 t381, .int .i64 0]) ?_ 2 _ rfl; (with_reducible repeat (first | apply blk_drewN | apply blk_drew | apply blk_alloc)); refine blk_put (cs := #[.int .i64 t380, .int .i64 0, .int .i64 0]) ?_ 1 _ rfl; (with_reducible repeat (first | apply blk_drewN | apply blk_drew | apply blk_alloc)); refine blk_put (cs := #[.int .i64 0, .int .i64 0, .int .i64 0]) ?_ 0 _ rfl; (with_reducible repeat (first | apply blk_drewN | apply blk_drew | apply blk_alloc)); exact BK384.out⟩, ⟨by repeat (first | (with_reducible first | exact HB.out | apply below_alloc | apply pw_below_drewN | apply below_drew1 | refine below_set ?_ GE374.out | refine below_set ?_ GE379.out | refine below_set ?_ GE384.out) | exact HB.out)⟩⟩
    · rw [if_neg c21] at H
      have c21b0 : (!(t375 == t380) || (!(t376 == t381) || (!(t377 == t382)))) = false := by simpa using c21
      clear c21
      (first | rw [c21b0] | (simp only [i64_w, i32_w]; rw [c21b0]) | skip)
      by_cases c27 : (t378 != t383) = true
      · rw [if_pos c27] at H
        have c27b0 : (t378 != t383) = true := c27
        (try (have c27b1 : decide (t378 = t383) = false := by simpa using c27))
        (try (have c27b2 : (t378 == t383) = false := by simpa using c27))
        (try (have c27b3 : ¬ (t378 = t383) := by simpa using c27))
        clear c27
        have H' := Aside0.mk H
        clear H
        have hnb28 := NB379_374.out
        have hnc28 := NB374_379.out
        have hnb29 := NB379_384.out
        have hnc29 := NB384_379.out
        have hcz30_0 : w17.cell? ⟨gb379, 0, none⟩ = some (.int .i64 t375) := (blk_cell BK379.out 0).trans rfl
        have hcz30_1 : w17.cell? ⟨gb379, 1, none⟩ = some (.int .i64 t376) := (blk_cell BK379.out 1).trans rfl
        have hcz30_2 : w17.cell? ⟨gb379, 2, none⟩ = some (.int .i64 t377) := (blk_cell BK379.out 2).trans rfl
        have hfz30_0 := blk_frozen BK379.out 0
        have hfz30_1 := blk_frozen BK379.out 1
        have hfz30_2 := blk_frozen BK379.out 2
        have hnb31 := NB384_374.out
        have hnc31 := NB374_384.out
        have hcz32_0 : w17.cell? ⟨gb384, 0, none⟩ = some (.int .i64 0) := (blk_cell BK384.out 0).trans rfl
        have hcz32_1 : w17.cell? ⟨gb384, 1, none⟩ = some (.int .i64 0) := (blk_cell BK384.out 1).trans rfl
        have hcz32_2 : w17.cell? ⟨gb384, 2, none⟩ = some (.int .i64 0) := (blk_cell BK384.out 2).trans rfl
        have hfz32_0 := blk_frozen BK384.out 0
        have hfz32_1 := blk_frozen BK384.out 1
        have hfz32_2 := blk_frozen BK384.out 2
        go_wp2
        go_meet
        case rel => exact ⟨_, (true), (by first | rfl | (simp; done) | (simp [*]; done)), H', ⟨by first | omega | exact Nat.le_refl _⟩, ⟨by (with_reducible repeat (first | apply blk_drewN | apply blk_drew | apply blk_alloc)); refine blk_far ?_ NB374_384.out _; (with_reducible repeat (first | apply blk_drewN | apply blk_drew | apply blk_alloc)); refine blk_far ?_ NB374_384.out _; (with_reducible repeat (first | apply blk_drewN | apply blk_drew | apply blk_alloc)); refine blk_far ?_ NB374_384.out _; (with_reducible repeat (first | apply blk_drewN | apply blk_drew | apply blk_alloc)); exact BK374.out⟩, ⟨by (with_reducible repeat (first | apply blk_drewN | apply blk_drew | apply blk_alloc)); refine blk_far ?_ NB379_384.out _; (with_reducible repeat (first | apply blk_drewN | apply blk_drew | apply blk_alloc)); refine blk_far ?_ NB379_384.out _; (with_reducible repeat (first | apply blk_drewN | apply blk_drew | apply blk_alloc)); refine blk_far ?_ NB379_384.out _; (with_reducible repeat (first | apply blk_drewN | apply blk_drew | apply blk_alloc)); exact BK379.out⟩, ⟨by (with_reducible repeat (first | apply blk_drewN | apply blk_drew | apply blk_alloc)); refine blk_put (cs := #[.int .i64 t380, .int .i64 t381, .int .i64 0]) ?_ 2 _ rfl; (with_reducible repeat (first | apply blk_drewN | apply blk_drew | apply blk_alloc)); refine blk_put (cs := #[.int .i64 t380, .int .i64 0, .int .i64 0]) ?_ 1 _ rfl; (with_reducible repeat (first | apply blk_drewN | apply blk_drew | apply blk_alloc)); refine blk_put (cs := #[.int .i64 0, .int .i64 0, .int .i64 0]) ?_ 0 _ rfl; (with_reducible repeat (first | apply blk_drewN | apply blk_drew | apply blk_alloc)); exact BK384.out⟩, ⟨by repeat (first | (with_reducible first | exact HB.out | apply below_alloc | apply pw_below_drewN | apply below_drew1 | refine below_set ?_ GE374.out | refine below_set ?_ GE379.out | refine below_set ?_ GE384.out) | exact HB.out)⟩⟩
      · rw [if_neg c27] at H
        have c27b0 : (t378 != t383) = false := by simpa using c27
        (try (have c27b1 : decide (t378 = t383) = true := by simpa using c27))
        (try (have c27b2 : (t378 == t383) = true := by simpa using c27))
        clear c27
        replace H := Option.bind_eq_some_iff.mp H
        obtain ⟨t385, A330, H⟩ := H
        replace H : (laws_FnRunClockNone.j0 k t378 t383 (!t385) t368 t369 t370 t375 t376 t377 t380 t381 t382) = some r := H
        have A33 := Aside0.mk A330
        clear A330
        have H' := Aside0.mk H
        clear H
        have hnb34 := NB379_374.out
        have hnc34 := NB374_379.out
        have hnb35 := NB379_384.out
        have hnc35 := NB384_379.out
        have hcz36_0 : w17.cell? ⟨gb379, 0, none⟩ = some (.int .i64 t375) := (blk_cell BK379.out 0).trans rfl
        have hcz36_1 : w17.cell? ⟨gb379, 1, none⟩ = some (.int .i64 t376) := (blk_cell BK379.out 1).trans rfl
        have hcz36_2 : w17.cell? ⟨gb379, 2, none⟩ = some (.int .i64 t377) := (blk_cell BK379.out 2).trans rfl
        have hfz36_0 := blk_frozen BK379.out 0
        have hfz36_1 := blk_frozen BK379.out 1
        have hfz36_2 := blk_frozen BK379.out 2
        have hnb37 := NB384_374.out
        have hnc37 := NB374_384.out
        have hcz38_0 : w17.cell? ⟨gb384, 0, none⟩ = some (.int .i64 0) := (blk_cell BK384.out 0).trans rfl
        have hcz38_1 : w17.cell? ⟨gb384, 1, none⟩ = some (.int .i64 0) := (blk_cell BK384.out 1).trans rfl
        have hcz38_2 : w17.cell? ⟨gb384, 2, none⟩ = some (.int .i64 0) := (blk_cell BK384.out 2).trans rfl
        have hfz38_0 := blk_frozen BK384.out 0
        have hfz38_1 := blk_frozen BK384.out 1
        have hfz38_2 := blk_frozen BK384.out 2
        have hcz39_0 : w17.cell? ⟨gb374, 0, none⟩ = some (.int .i64 t368) := (blk_cell BK374.out 0).trans rfl
        have hcz39_1 : w17.cell? ⟨gb374, 1, none⟩ = some (.int .i64 t369) := (blk_cell BK374.out 1).trans rfl
        have hcz39_2 : w17.cell? ⟨gb374, 2, none⟩ = some (.int .i64 t370) := (blk_cell BK374.out 2).trans rfl
        have hfz39_0 := blk_frozen BK374.out 0
        have hfz39_1 := blk_frozen BK374.out 1
        have hfz39_2 := blk_frozen BK374.out 2
        go_wp2_with (first | (go_at_call 16; (with_reducible refine (impl_ValidClock.calls t368 t369 t370 t385 _ A33.out).mono ?_); rintro e w40 ⟨rfl, hb⟩; have n0_ := Aside0.mk (Kd.R_below (by (with_reducible repeat (first | apply Kd.R_alloc | apply Kd.R_drewN | apply Kd.R_drew)); exact (Kd.R_mono (Kd.R_far (p := ⟨gb384, 2, none⟩) (Kd.R_far (p := ⟨gb384, 1, none⟩) (Kd.R_far (p := ⟨gb384, 0, none⟩) (Kd.R_types HO373.out BK384.out (by decide)) (fun _ hk => hk.2) (.int .i64 t380)) (fun _ hk => hk.2) (.int .i64 t381)) (fun _ hk => hk.2) (.int .i64 t382)) (fun _ h_ => h_.1))) hb); have n1_ := Aside0.mk (blk_below (g := gb374) (o := .cells #[.int .i64 t368, .int .i64 t369, .int .i64 t370] 26 (0, 0)) (by (with_reducible repeat (first | apply blk_drewN | apply blk_drew | apply blk_alloc)); refine blk_far ?_ NB374_384.out _; (with_reducible repeat (first | apply blk_drewN | apply blk_drew | apply blk_alloc)); refine blk_far ?_ NB374_384.out _; (with_reducible repeat (first | apply blk_drewN | apply blk_drew | apply blk_alloc)); refine blk_far ?_ NB374_384.out _; (with_reducible repeat (first | apply blk_drewN | apply blk_drew | apply blk_alloc)); exact BK374.out) hb); have n2_ := Aside0.mk (blk_below (g := gb379) (o := .cells #[.int .i64 t375, .int .i64 t376, .int .i64 t377] 26 (0, 0)) (by (with_reducible repeat (first | apply blk_drewN | apply blk_drew | apply blk_alloc)); refine blk_far ?_ NB379_384.out _; (with_reducible repeat (first | apply blk_drewN | apply blk_drew | apply blk_alloc)); refine blk_far ?_ NB379_384.out _; (with_reducible repeat (first | apply blk_drewN | apply blk_drew | apply blk_alloc)); refine blk_far ?_ NB379_384.out _; (with_reducible repeat (first | apply blk_drewN | apply blk_drew | apply blk_alloc)); exact BK379.out) hb); have n3_ := Aside0.mk (blk_below (g := gb384) (o := .cells #[.int .i64 t380, .int .i64 t381, .int .i64 t382] 26 (0, 0)) (by (with_reducible repeat (first | apply blk_drewN | apply blk_drew | apply blk_alloc)); refine blk_put (cs := #[.int .i64 t380, .int .i64 t381, .int .i64 0]) ?_ 2 _ rfl; (with_reducible repeat (first | apply blk_drewN | apply blk_drew | apply blk_alloc)); refine blk_put (cs := #[.int .i64 t380, .int .i64 0, .int .i64 0]) ?_ 1 _ rfl; (with_reducible repeat (first | apply blk_drewN | apply blk_drew | apply blk_alloc)); refine blk_put (cs := #[.int .i64 0, .int .i64 0, .int .i64 0]) ?_ 0 _ rfl; (with_reducible repeat (first | apply blk_drewN | apply blk_drew | apply blk_alloc)); exact BK384.out) hb); have n4_ := Aside0.mk (below_step (by repeat (first | (with_reducible first | exact HB.out | apply below_alloc | apply pw_below_drewN | apply below_drew1 | refine below_set ?_ GE374.out | refine below_set ?_ GE379.out | refine below_set ?_ GE384.out) | exact HB.out)) hb); clear HO373; clear BK374; clear BK379; clear BK384; clear HB; have HO373 := n0_; have BK374 := n1_; have BK379 := n2_; have BK384 := n3_; have HB := n4_; clear n0_ n1_ n2_ n3_ n4_; (try clear hb); (try clear hb2); (try clear hk); (try clear hi)))
        go_meet
        case rel => exact ⟨_, (!t385), (by first | rfl | (simp; done) | (simp [*]; done)), H', ⟨by first | omega | exact Nat.le_refl _⟩, ⟨by (with_reducible repeat (first | apply blk_drewN | apply blk_drew | apply blk_alloc)); exact BK374.out⟩, ⟨by (with_reducible repeat (first | apply blk_drewN | apply blk_drew | apply blk_alloc)); exact BK379.out⟩, ⟨by (with_reducible repeat (first | apply blk_drewN | apply blk_drew | apply blk_alloc)); exact BK384.out⟩, ⟨by repeat (first | (with_reducible first | exact HB.out | apply below_alloc | apply pw_below_drewN | apply below_drew1 | refine below_set ?_ GE374.out | refine below_set ?_ GE379.out | refine below_set ?_ GE384.out) | exact HB.out)⟩⟩
   case rest =>
    clear HC6
    try clear c1
    try clear c2
    try clear c2b0
    try clear c2b1
    try clear p2
    try clear c3
    try clear c5
    try clear c8
    try clear c11
    try clear c13
    try clear c14
    try clear c18
    try clear c19
    try clear c21
    try clear c21b0
    try clear c22
    try clear c23
    try clear c25
    try clear c27
    try clear c27b0
    try clear c27b1
    try clear c27b2
    try clear c28
    try clear c29
    try clear c31
    try clear c34
    try clear c35
    try clear c37
    try clear hcz14_0
    try clear hcz14_1
    try clear hcz14_2
    try clear hcz15_0
    try clear hcz15_1
    try clear hcz15_2
    try clear hcz20_0
    try clear hcz20_1
    try clear hcz20_2
    try clear hcz24_0
    try clear hcz24_1
    try clear hcz24_2
    try clear hcz26_0
    try clear hcz26_1
    try clear hcz26_2
    try clear hcz30_0
    try clear hcz30_1
    try clear hcz30_2
    try clear hcz32_0
    try clear hcz32_1
    try clear hcz32_2
    try clear hcz36_0
    try clear hcz36_1
    try clear hcz36_2
    try clear hcz38_0
    try clear hcz38_1
    try clear hcz38_2
    try clear hcz39_0
    try clear hcz39_1
    try clear hcz39_2
    try clear hcz9_0
    try clear hcz9_1
    try clear hcz9_2
    try clear hfz14_0
    try clear hfz14_1
    try clear hfz14_2
    try clear hfz15_0
    try clear hfz15_1
    try clear hfz15_2
    try clear hfz20_0
    try clear hfz20_1
    try clear hfz20_2
    try clear hfz24_0
    try clear hfz24_1
    try clear hfz24_2
    try clear hfz26_0
    try clear hfz26_1
    try clear hfz26_2
    try clear hfz30_0
    try clear hfz30_1
    try clear hfz30_2
    try clear hfz32_0
    try clear hfz32_1
    try clear hfz32_2
    try clear hfz36_0
    try clear hfz36_1
    try clear hfz36_2
    try clear hfz38_0
    try clear hfz38_1
    try clear hfz38_2
    try clear hfz39_0
    try clear hfz39_1
    try clear hfz39_2
    try clear hfz9_0
    try clear hfz9_1
    try clear hfz9_2
    obtain ⟨kq, x43_5, rfl, HA, HJ5, BK374, BK379, BK384, HB⟩ := hcut
    cases kq with
    | zero => exact absurd HA.out (by simp [laws_FnRunClockNone.j0])
    | succ kj5 =>
     have H := HA.out
     clear HA
     simp only [laws_FnRunClockNone.j0] at H
     by_cases c41 : x43_5 = true
     · subst c41
       have H1 : (if (t375 == t380 && (t376 == t381 && (t377 == t382))) = true then (some (t378 == t383)) else (some false)) = some r := by rw [if_pos rfl] at H; exact H
       clear H
       have H := H1
       clear H1
       by_cases c42 : (t375 == t380 && (t376 == t381 && (t377 == t382))) = true
       · rw [if_pos c42] at H
         have c42b0 : (t375 == t380 && (t376 == t381 && (t377 == t382))) = true := c42
         (try (have c42b1 : decide (t375 = t380 && (t376 == t381 && (t377 == t382))) = true := by simpa using c42))
         (try (have c42b2 : (t375 == t380 && (t376 == t381 && (t377 == t382))) = true := by simpa using c42))
         clear c42
         obtain rfl := Option.some.inj H
         have hnb43 := NB379_374.out
         have hnc43 := NB374_379.out
         have hnb44 := NB379_384.out
         have hnc44 := NB384_379.out
         have hcz45_0 : wc.cell? ⟨gb379, 0, none⟩ = some (.int .i64 t375) := (blk_cell BK379.out 0).trans rfl
         have hcz45_1 : wc.cell? ⟨gb379, 1, none⟩ = some (.int .i64 t376) := (blk_cell BK379.out 1).trans rfl
         have hcz45_2 : wc.cell? ⟨gb379, 2, none⟩ = some (.int .i64 t377) := (blk_cell BK379.out 2).trans rfl
         have hfz45_0 := blk_frozen BK379.out 0
         have hfz45_1 := blk_frozen BK379.out 1
         have hfz45_2 := blk_frozen BK379.out 2
         have hnb46 := NB384_374.out
         have hnc46 := NB374_384.out
         have hcz47_0 : wc.cell? ⟨gb384, 0, none⟩ = some (.int .i64 t380) := (blk_cell BK384.out 0).trans rfl
         have hcz47_1 : wc.cell? ⟨gb384, 1, none⟩ = some (.int .i64 t381) := (blk_cell BK384.out 1).trans rfl
         have hcz47_2 : wc.cell? ⟨gb384, 2, none⟩ = some (.int .i64 t382) := (blk_cell BK384.out 2).trans rfl
         have hfz47_0 := blk_frozen BK384.out 0
         have hfz47_1 := blk_frozen BK384.out 1
         have hfz47_2 := blk_frozen BK384.out 2
         go_wp2
         go_ret
         exact ⟨by first | rfl | (simp [errW_none, errW_some] <;> rfl) | (simp [*, errW_none, errW_some] <;> rfl), by repeat (first | (with_reducible first | exact HB.out | apply below_alloc | apply pw_below_drewN | apply below_drew1 | refine below_set ?_ GE374.out | refine below_set ?_ GE379.out | refine below_set ?_ GE384.out) | exact HB.out)⟩
       · rw [if_neg c42] at H
         have c42b0 : (t375 == t380 && (t376 == t381 && (t377 == t382))) = false := by simpa using c42
         (try (have c42b1 : decide (t375 = t380 && (t376 == t381 && (t377 == t382))) = false := by simpa using c42))
         (try (have c42b2 : (t375 == t380 && (t376 == t381 && (t377 == t382))) = false := by simpa using c42))
         (try (have c42b3 : ¬ (t375 = t380 && (t376 == t381 && (t377 == t382))) := by simpa using c42))
         clear c42
         obtain rfl := Option.some.inj H
         have hnb48 := NB379_374.out
         have hnc48 := NB374_379.out
         have hnb49 := NB379_384.out
         have hnc49 := NB384_379.out
         have hcz50_0 : wc.cell? ⟨gb379, 0, none⟩ = some (.int .i64 t375) := (blk_cell BK379.out 0).trans rfl
         have hcz50_1 : wc.cell? ⟨gb379, 1, none⟩ = some (.int .i64 t376) := (blk_cell BK379.out 1).trans rfl
         have hcz50_2 : wc.cell? ⟨gb379, 2, none⟩ = some (.int .i64 t377) := (blk_cell BK379.out 2).trans rfl
         have hfz50_0 := blk_frozen BK379.out 0
         have hfz50_1 := blk_frozen BK379.out 1
         have hfz50_2 := blk_frozen BK379.out 2
         have hnb51 := NB384_374.out
         have hnc51 := NB374_384.out
         have hcz52_0 : wc.cell? ⟨gb384, 0, none⟩ = some (.int .i64 t380) := (blk_cell BK384.out 0).trans rfl
         have hcz52_1 : wc.cell? ⟨gb384, 1, none⟩ = some (.int .i64 t381) := (blk_cell BK384.out 1).trans rfl
         have hcz52_2 : wc.cell? ⟨gb384, 2, none⟩ = some (.int .i64 t382) := (blk_cell BK384.out 2).trans rfl
         have hfz52_0 := blk_frozen BK384.out 0
         have hfz52_1 := blk_frozen BK384.out 1
         have hfz52_2 := blk_frozen BK384.out 2
         go_wp2
         go_ret
         exact ⟨by first | rfl | (simp [errW_none, errW_some] <;> rfl) | (simp [*, errW_none, errW_some] <;> rfl), by repeat (first | (with_reducible first | exact HB.out | apply below_alloc | apply pw_below_drewN | apply below_drew1 | refine below_set ?_ GE374.out | refine below_set ?_ GE379.out | refine below_set ?_ GE384.out) | exact HB.out)⟩
     · replace c41 := Bool.eq_false_iff.mpr c41
       subst c41
       have H1 : ((impl_RunClock.f kj5 t368 t369 t370 ([] : List (S40))).bind fun bt386 => (if bt386.2.2.2 = true then (some (bt386.1 == t368 && (bt386.2.1 == t369 && (bt386.2.2.1 == t370)))) else (some false))) = some r := by rw [if_neg (show ¬ (false = true) by decide)] at H; exact H
       clear H
       have H := H1
       clear H1
       replace H := Option.bind_eq_some_iff.mp H
       obtain ⟨⟨t386, t387, t388, t389⟩, A530, H⟩ := H
       replace H : (if t389 = true then (some (t386 == t368 && (t387 == t369 && (t388 == t370)))) else (some false)) = some r := H
       have A53 := Aside0.mk A530
       clear A530
       by_cases c54 : t389 = true
       · subst c54
         have H1 : (some (t386 == t368 && (t387 == t369 && (t388 == t370)))) = some r := by rw [if_pos rfl] at H; exact H
         clear H
         have H := H1
         clear H1
         obtain rfl := Option.some.inj H
         have hnb55 := NB374_379.out
         have hnc55 := NB379_374.out
         have hnb56 := NB374_384.out
         have hnc56 := NB384_374.out
         have hcz57_0 : wc.cell? ⟨gb374, 0, none⟩ = some (.int .i64 t368) := (blk_cell BK374.out 0).trans rfl
         have hcz57_1 : wc.cell? ⟨gb374, 1, none⟩ = some (.int .i64 t369) := (blk_cell BK374.out 1).trans rfl
         have hcz57_2 : wc.cell? ⟨gb374, 2, none⟩ = some (.int .i64 t370) := (blk_cell BK374.out 2).trans rfl
         have hfz57_0 := blk_frozen BK374.out 0
         have hfz57_1 := blk_frozen BK374.out 1
         have hfz57_2 := blk_frozen BK374.out 2
         go_wp2_with (first | ((with_reducible refine gate_callee (f := 11) rfl ?_); refine goesL_ (some 54) rfl rfl Try.func11 (by kernel_rfl) rfl #[.agg #[.int .i64 t368, .int .i64 t369, .int .i64 t370], .slice none 0 0] rfl (by (try simp only [List.map_toArray, List.map_cons, List.map_nil]); first | done | rfl | (simp only [List.length_drop, List.length_take]; rfl)) ?_; (refine (impl_RunClock.calls kj5 t368 t369 t370 _ _ ([] : List (S40)) t386 t387 t388 true _ ?side1 ?side2 A53.out).mono ?_); (case side1 => exact Kd.C_nil _ _); (case side2 => exact Nat.le_refl _); rintro e w58 ⟨rfl, hb⟩; refine ⟨_, rfl, ?_⟩; have n0_ := Aside0.mk (blk_below (g := gb374) (o := .cells #[.int .i64 t368, .int .i64 t369, .int .i64 t370] 26 (0, 0)) (by (with_reducible repeat (first | apply blk_drewN | apply blk_drew | apply blk_alloc)); exact BK374.out) hb); have n1_ := Aside0.mk (blk_below (g := gb379) (o := .cells #[.int .i64 t375, .int .i64 t376, .int .i64 t377] 26 (0, 0)) (by (with_reducible repeat (first | apply blk_drewN | apply blk_drew | apply blk_alloc)); exact BK379.out) hb); have n2_ := Aside0.mk (blk_below (g := gb384) (o := .cells #[.int .i64 t380, .int .i64 t381, .int .i64 t382] 26 (0, 0)) (by (with_reducible repeat (first | apply blk_drewN | apply blk_drew | apply blk_alloc)); exact BK384.out) hb); have n3_ := Aside0.mk (below_step (by repeat (first | (with_reducible first | exact HB.out | apply below_alloc | apply pw_below_drewN | apply below_drew1 | refine below_set ?_ GE374.out | refine below_set ?_ GE379.out | refine below_set ?_ GE384.out) | exact HB.out)) hb); clear BK374; clear BK379; clear BK384; clear HB; have BK374 := n0_; have BK379 := n1_; have BK384 := n2_; have HB := n3_; clear n0_ n1_ n2_ n3_; (try clear hb); (try clear hb2); (try clear hk); (try clear hi)) | ((with_reducible refine gate_dst (N := 9) rfl ?_); refine box_event ?hg (N := 9) ?hd (cs := #[.int .i64 0, .int .i64 0, .int .i64 0]) (t := 26) ?hr ?_; (case hd => rfl); (case hg => rfl); (case hr => first | (go_simp; done) | (go_simp; rfl)); intro gb390 hg w59 hbox hb; have n0_ := Aside0.mk (blk_below (g := gb374) (o := .cells #[.int .i64 t368, .int .i64 t369, .int .i64 t370] 26 (0, 0)) (by (with_reducible repeat (first | apply blk_drewN | apply blk_drew | apply blk_alloc)); exact BK374.out) hb); have n1_ := Aside0.mk (blk_below (g := gb379) (o := .cells #[.int .i64 t375, .int .i64 t376, .int .i64 t377] 26 (0, 0)) (by (with_reducible repeat (first | apply blk_drewN | apply blk_drew | apply blk_alloc)); exact BK379.out) hb); have n2_ := Aside0.mk (blk_below (g := gb384) (o := .cells #[.int .i64 t380, .int .i64 t381, .int .i64 t382] 26 (0, 0)) (by (with_reducible repeat (first | apply blk_drewN | apply blk_drew | apply blk_alloc)); exact BK384.out) hb); have n3_ := Aside0.mk (below_step (by repeat (first | (with_reducible first | exact HB.out | apply below_alloc | apply pw_below_drewN | apply below_drew1 | refine below_set ?_ GE374.out | refine below_set ?_ GE379.out | refine below_set ?_ GE384.out) | exact HB.out)) hb); have n4_ := Aside0.mk (hbox); have n5_ := Aside0.mk ((by rw [hg]; exact (below_size (by repeat (first | (with_reducible first | exact HB.out | apply below_alloc | apply pw_below_drewN | apply below_drew1 | refine below_set ?_ GE374.out | refine below_set ?_ GE379.out | refine below_set ?_ GE384.out) | exact HB.out))) : w.heap.size ≤ gb390)); have n6_ := Aside0.mk ((by rw [hg]; exact (below_size (by repeat (first | (with_reducible first | exact HB.out | apply below_alloc | apply pw_below_drewN | apply below_drew1 | refine below_set ?_ GE374.out | refine below_set ?_ GE379.out | refine below_set ?_ GE384.out) | exact HB.out))) : w.heap.size ≤ gb390)); have n7_ := Aside0.mk ((by rw [hg]; exact Nat.ne_of_lt (blk_lt (g := gb374) (o := .cells #[.int .i64 t368, .int .i64 t369, .int .i64 t370] 26 (0, 0)) (by (with_reducible repeat (first | apply blk_drewN | apply blk_drew | apply blk_alloc)); exact BK374.out)) : gb374 ≠ gb390)); have n8_ := Aside0.mk ((by rw [hg]; exact Nat.ne_of_gt (blk_lt (g := gb374) (o := .cells #[.int .i64 t368, .int .i64 t369, .int .i64 t370] 26 (0, 0)) (by (with_reducible repeat (first | apply blk_drewN | apply blk_drew | apply blk_alloc)); exact BK374.out)) : gb390 ≠ gb374)); have n9_ := Aside0.mk ((by rw [hg]; exact Nat.ne_of_lt (blk_lt (g := gb379) (o := .cells #[.int .i64 t375, .int .i64 t376, .int .i64 t377] 26 (0, 0)) (by (with_reducible repeat (first | apply blk_drewN | apply blk_drew | apply blk_alloc)); exact BK379.out)) : gb379 ≠ gb390)); have n10_ := Aside0.mk ((by rw [hg]; exact Nat.ne_of_gt (blk_lt (g := gb379) (o := .cells #[.int .i64 t375, .int .i64 t376, .int .i64 t377] 26 (0, 0)) (by (with_reducible repeat (first | apply blk_drewN | apply blk_drew | apply blk_alloc)); exact BK379.out)) : gb390 ≠ gb379)); have n11_ := Aside0.mk ((by rw [hg]; exact Nat.ne_of_lt (blk_lt (g := gb384) (o := .cells #[.int .i64 t380, .int .i64 t381, .int .i64 t382] 26 (0, 0)) (by (with_reducible repeat (first | apply blk_drewN | apply blk_drew | apply blk_alloc)); exact BK384.out)) : gb384 ≠ gb390)); have n12_ := Aside0.mk ((by rw [hg]; exact Nat.ne_of_gt (blk_lt (g := gb384) (o := .cells #[.int .i64 t380, .int .i64 t381, .int .i64 t382] 26 (0, 0)) (by (with_reducible repeat (first | apply blk_drewN | apply blk_drew | apply blk_alloc)); exact BK384.out)) : gb390 ≠ gb384)); clear BK374; clear BK379; clear BK384; clear HB; have BK374 := n0_; have BK379 := n1_; have BK384 := n2_; have HB := n3_; have BK390 := n4_; have GW390 := n5_; have GE390 := n6_; have NB374_390 := n7_; have NB390_374 := n8_; have NB379_390 := n9_; have NB390_379 := n10_; have NB384_390 := n11_; have NB390_384 := n12_; clear n0_ n1_ n2_ n3_ n4_ n5_ n6_ n7_ n8_ n9_ n10_ n11_ n12_; clear hb hbox hg; have hnb60 := NB390_374.out; have hnc60 := NB374_390.out; have hnb61 := NB390_379.out; have hnc61 := NB379_390.out; have hnb62 := NB390_384.out; have hnc62 := NB384_390.out; have hcz63_0 : w59.cell? ⟨gb390, 0, none⟩ = some (.int .i64 0) := (blk_cell BK390.out 0).trans rfl; have hcz63_1 : w59.cell? ⟨gb390, 1, none⟩ = some (.int .i64 0) := (blk_cell BK390.out 1).trans rfl; have hcz63_2 : w59.cell? ⟨gb390, 2, none⟩ = some (.int .i64 0) := (blk_cell BK390.out 2).trans rfl; have hfz63_0 := blk_frozen BK390.out 0; have hfz63_1 := blk_frozen BK390.out 1; have hfz63_2 := blk_frozen BK390.out 2; have hcz64_0 : w59.cell? ⟨gb374, 0, none⟩ = some (.int .i64 t368) := (blk_cell BK374.out 0).trans rfl; have hcz64_1 : w59.cell? ⟨gb374, 1, none⟩ = some (.int .i64 t369) := (blk_cell BK374.out 1).trans rfl; have hcz64_2 : w59.cell? ⟨gb374, 2, none⟩ = some (.int .i64 t370) := (blk_cell BK374.out 2).trans rfl; have hfz64_0 := blk_frozen BK374.out 0; have hfz64_1 := blk_frozen BK374.out 1; have hfz64_2 := blk_frozen BK374.out 2))
         go_ret
         exact ⟨by first | rfl | (simp [errW_none, errW_some] <;> rfl) | (simp [*, errW_none, errW_some] <;> rfl), by repeat (first | (with_reducible first | exact HB.out | apply below_alloc | apply pw_below_drewN | apply below_drew1 | refine below_set ?_ GE374.out | refine below_set ?_ GE379.out | refine below_set ?_ GE384.out | refine below_set ?_ GE390.out) | exact HB.out)⟩
       · replace c54 := Bool.eq_false_iff.mpr c54
         subst c54
         have H1 : (some false) = some r := by rw [if_neg (show ¬ (false = true) by decide)] at H; exact H
         clear H
         have H := H1
         clear H1
         obtain rfl := Option.some.inj H
         have hnb65 := NB374_379.out
         have hnc65 := NB379_374.out
         have hnb66 := NB374_384.out
         have hnc66 := NB384_374.out
         have hcz67_0 : wc.cell? ⟨gb374, 0, none⟩ = some (.int .i64 t368) := (blk_cell BK374.out 0).trans rfl
         have hcz67_1 : wc.cell? ⟨gb374, 1, none⟩ = some (.int .i64 t369) := (blk_cell BK374.out 1).trans rfl
         have hcz67_2 : wc.cell? ⟨gb374, 2, none⟩ = some (.int .i64 t370) := (blk_cell BK374.out 2).trans rfl
         have hfz67_0 := blk_frozen BK374.out 0
         have hfz67_1 := blk_frozen BK374.out 1
         have hfz67_2 := blk_frozen BK374.out 2
         go_wp2_with (first | ((with_reducible refine gate_callee (f := 11) rfl ?_); refine goesL_ (some 54) rfl rfl Try.func11 (by kernel_rfl) rfl #[.agg #[.int .i64 t368, .int .i64 t369, .int .i64 t370], .slice none 0 0] rfl (by (try simp only [List.map_toArray, List.map_cons, List.map_nil]); first | done | rfl | (simp only [List.length_drop, List.length_take]; rfl)) ?_; (refine (impl_RunClock.calls kj5 t368 t369 t370 _ _ ([] : List (S40)) t386 t387 t388 false _ ?side1 ?side2 A53.out).mono ?_); (case side1 => exact Kd.C_nil _ _); (case side2 => exact Nat.le_refl _); rintro e w68 ⟨rfl, hb⟩; refine ⟨_, rfl, ?_⟩; have n0_ := Aside0.mk (blk_below (g := gb374) (o := .cells #[.int .i64 t368, .int .i64 t369, .int .i64 t370] 26 (0, 0)) (by (with_reducible repeat (first | apply blk_drewN | apply blk_drew | apply blk_alloc)); exact BK374.out) hb); have n1_ := Aside0.mk (blk_below (g := gb379) (o := .cells #[.int .i64 t375, .int .i64 t376, .int .i64 t377] 26 (0, 0)) (by (with_reducible repeat (first | apply blk_drewN | apply blk_drew | apply blk_alloc)); exact BK379.out) hb); have n2_ := Aside0.mk (blk_below (g := gb384) (o := .cells #[.int .i64 t380, .int .i64 t381, .int .i64 t382] 26 (0, 0)) (by (with_reducible repeat (first | apply blk_drewN | apply blk_drew | apply blk_alloc)); exact BK384.out) hb); have n3_ := Aside0.mk (below_step (by repeat (first | (with_reducible first | exact HB.out | apply below_alloc | apply pw_below_drewN | apply below_drew1 | refine below_set ?_ GE374.out | refine below_set ?_ GE379.out | refine below_set ?_ GE384.out) | exact HB.out)) hb); clear BK374; clear BK379; clear BK384; clear HB; have BK374 := n0_; have BK379 := n1_; have BK384 := n2_; have HB := n3_; clear n0_ n1_ n2_ n3_; (try clear hb); (try clear hb2); (try clear hk); (try clear hi)) | ((with_reducible refine gate_dst (N := 9) rfl ?_); refine box_event ?hg (N := 9) ?hd (cs := #[.int .i64 0, .int .i64 0, .int .i64 0]) (t := 26) ?hr ?_; (case hd => rfl); (case hg => rfl); (case hr => first | (go_simp; done) | (go_simp; rfl)); intro gb390 hg w69 hbox hb; have n0_ := Aside0.mk (blk_below (g := gb374) (o := .cells #[.int .i64 t368, .int .i64 t369, .int .i64 t370] 26 (0, 0)) (by (with_reducible repeat (first | apply blk_drewN | apply blk_drew | apply blk_alloc)); exact BK374.out) hb); have n1_ := Aside0.mk (blk_below (g := gb379) (o := .cells #[.int .i64 t375, .int .i64 t376, .int .i64 t377] 26 (0, 0)) (by (with_reducible repeat (first | apply blk_drewN | apply blk_drew | apply blk_alloc)); exact BK379.out) hb); have n2_ := Aside0.mk (blk_below (g := gb384) (o := .cells #[.int .i64 t380, .int .i64 t381, .int .i64 t382] 26 (0, 0)) (by (with_reducible repeat (first | apply blk_drewN | apply blk_drew | apply blk_alloc)); exact BK384.out) hb); have n3_ := Aside0.mk (below_step (by repeat (first | (with_reducible first | exact HB.out | apply below_alloc | apply pw_below_drewN | apply below_drew1 | refine below_set ?_ GE374.out | refine below_set ?_ GE379.out | refine below_set ?_ GE384.out) | exact HB.out)) hb); have n4_ := Aside0.mk (hbox); have n5_ := Aside0.mk ((by rw [hg]; exact (below_size (by repeat (first | (with_reducible first | exact HB.out | apply below_alloc | apply pw_below_drewN | apply below_drew1 | refine below_set ?_ GE374.out | refine below_set ?_ GE379.out | refine below_set ?_ GE384.out) | exact HB.out))) : w.heap.size ≤ gb390)); have n6_ := Aside0.mk ((by rw [hg]; exact (below_size (by repeat (first | (with_reducible first | exact HB.out | apply below_alloc | apply pw_below_drewN | apply below_drew1 | refine below_set ?_ GE374.out | refine below_set ?_ GE379.out | refine below_set ?_ GE384.out) | exact HB.out))) : w.heap.size ≤ gb390)); have n7_ := Aside0.mk ((by rw [hg]; exact Nat.ne_of_lt (blk_lt (g := gb374) (o := .cells #[.int .i64 t368, .int .i64 t369, .int .i64 t370] 26 (0, 0)) (by (with_reducible repeat (first | apply blk_drewN | apply blk_drew | apply blk_alloc)); exact BK374.out)) : gb374 ≠ gb390)); have n8_ := Aside0.mk ((by rw [hg]; exact Nat.ne_of_gt (blk_lt (g := gb374) (o := .cells #[.int .i64 t368, .int .i64 t369, .int .i64 t370] 26 (0, 0)) (by (with_reducible repeat (first | apply blk_drewN | apply blk_drew | apply blk_alloc)); exact BK374.out)) : gb390 ≠ gb374)); have n9_ := Aside0.mk ((by rw [hg]; exact Nat.ne_of_lt (blk_lt (g := gb379) (o := .cells #[.int .i64 t375, .int .i64 t376, .int .i64 t377] 26 (0, 0)) (by (with_reducible repeat (first | apply blk_drewN | apply blk_drew | apply blk_alloc)); exact BK379.out)) : gb379 ≠ gb390)); have n10_ := Aside0.mk ((by rw [hg]; exact Nat.ne_of_gt (blk_lt (g := gb379) (o := .cells #[.int .i64 t375, .int .i64 t376, .int .i64 t377] 26 (0, 0)) (by (with_reducible repeat (first | apply blk_drewN | apply blk_drew | apply blk_alloc)); exact BK379.out)) : gb390 ≠ gb379)); have n11_ := Aside0.mk ((by rw [hg]; exact Nat.ne_of_lt (blk_lt (g := gb384) (o := .cells #[.int .i64 t380, .int .i64 t381, .int .i64 t382] 26 (0, 0)) (by (with_reducible repeat (first | apply blk_drewN | apply blk_drew | apply blk_alloc)); exact BK384.out)) : gb384 ≠ gb390)); have n12_ := Aside0.mk ((by rw [hg]; exact Nat.ne_of_gt (blk_lt (g := gb384) (o := .cells #[.int .i64 t380, .int .i64 t381, .int .i64 t382] 26 (0, 0)) (by (with_reducible repeat (first | apply blk_drewN | apply blk_drew | apply blk_alloc)); exact BK384.out)) : gb390 ≠ gb384)); clear BK374; clear BK379; clear BK384; clear HB; have BK374 := n0_; have BK379 := n1_; have BK384 := n2_; have HB := n3_; have BK390 := n4_; have GW390 := n5_; have GE390 := n6_; have NB374_390 := n7_; have NB390_374 := n8_; have NB379_390 := n9_; have NB390_379 := n10_; have NB384_390 := n11_; have NB390_384 := n12_; clear n0_ n1_ n2_ n3_ n4_ n5_ n6_ n7_ n8_ n9_ n10_ n11_ n12_; clear hb hbox hg; have hnb70 := NB390_374.out; have hnc70 := NB374_390.out; have hnb71 := NB390_379.out; have hnc71 := NB379_390.out; have hnb72 := NB390_384.out; have hnc72 := NB384_390.out; have hcz73_0 : w69.cell? ⟨gb390, 0, none⟩ = some (.int .i64 0) := (blk_cell BK390.out 0).trans rfl; have hcz73_1 : w69.cell? ⟨gb390, 1, none⟩ = some (.int .i64 0) := (blk_cell BK390.out 1).trans rfl; have hcz73_2 : w69.cell? ⟨gb390, 2, none⟩ = some (.int .i64 0) := (blk_cell BK390.out 2).trans rfl; have hfz73_0 := blk_frozen BK390.out 0; have hfz73_1 := blk_frozen BK390.out 1; have hfz73_2 := blk_frozen BK390.out 2))
         go_ret
         exact ⟨by first | rfl | (simp [errW_none, errW_some] <;> rfl) | (simp [*, errW_none, errW_some] <;> rfl), by repeat (first | (with_reducible first | exact HB.out | apply below_alloc | apply pw_below_drewN | apply below_drew1 | refine below_set ?_ GE374.out | refine below_set ?_ GE379.out | refine below_set ?_ GE384.out | refine below_set ?_ GE390.out) | exact HB.out)⟩

/-- THE ONE PURE STATEMENT of laws_FnRunClockNone: yours. -/
def laws_FnRunClockNone.Pure : Prop := ∀ (l0 : List Int), l0.length ≤ maxLen → l0.length * 1 ≤ 140737488351232 → (∀ x ∈ l0, (Lit.int .u8 x).wf = true) → ∃ k, laws_FnRunClockNone.f k l0 = some true
theorem laws_FnRunClockNone.walk (P : laws_FnRunClockNone.Pure) (a0 : Option Addr) (len0 cap0 : Nat) (z0 : List Int) (w : World) (w0 : (a0 = none ∧ len0 = 0 ∧ cap0 = 0 ∧ z0 = []) ∨ ∃ x, a0 = some x ∧ len0 ≤ cap0 ∧ cap0 ≤ maxLen ∧ z0.length = cap0 ∧ (∀ i, i < z0.length → w.cell? (x.add i) = some (.int .u8 (z0.getD i 0))) ∧ ∀ n ∈ z0, (Lit.int .u8 n).wf = true) (y0 : len0 * 1 ≤ 140737488351232) :
 Calls Try.prog 5 #[.slice a0 len0 cap0] w fun e w' => e = .returned (.bool true) ∧ Below w.heap.size w w' := by
 obtain ⟨l0, rfl, hr0, hm0, hw0, hc0⟩ := ReadsInt.ofRowC w0
 obtain ⟨k, h⟩ := P l0 hm0 y0 hw0
 refine (laws_FnRunClockNone.calls k _ _ l0 true w (Kd.C_of_reads (d := (0 : Int)) (h1 := fun _ => rfl) hr0) hc0 h).mono ?_
 rintro e w' ⟨rfl, hd⟩
 exact ⟨rfl, hd⟩

end Go.Proofs.Ytmebkfcoadbakaa.PAll
