/- Contracts of the Go functions that this seat's laws reach: each call returns what the plain function beside it tells, and leaves what was there; no condition but that result. Written by a program of this session (pmore.py, over the kit's print). -/
import Derived.Test.YtmebkfcoadbakaaPAllx0
import Derived.Test.YtmebkfcoadbakaaPAllx1
import Derived.Test.YtmebkfcoadbakaaPAllx4
import Derived.Test.YtmebkfcoadbakaaPAllx5
import Derived.Test.YtmebkfcoadbakaaPAllx6
import Derived.Test.YtmebkfcoadbakaaPAllx7
import Derived.Test.YtmebkfcoadbakaaPAllx10
namespace Go.Proofs.Ytmebkfcoadbakaa.PAll
open Go.RowKit Go.Proofs.YtmebkfcoadbakaaW.PrintWords Go.Proofs.YtmebkfcoadbakaaW.PrintLast Go.Proofs.YtmebkfcoadbakaaW.PrintMore
attribute [local go_sem] max2_int min2_int max_two min_two max_three min_three max_four min_four   -- for this text's walks alone
set_option linter.unusedVariables false
set_option linter.unusedSimpArgs false

attribute [local go_sem high] eqA26
/-! ### laws_FnRunClock: function 4 -/
mutual
def laws_FnRunClock.j0 : Nat → List (S40) → Bool → Bool → Bool → Int → Int → Int → Int → Int → Int → Int → Int → Int → Option (Bool)
 | 0, _, _, _, _, _, _, _, _, _, _, _, _, _ => none
 | k + 1, x4, x6, x8, x44, x349000, x349001, x349002, x354000, x354001, x354002, x359000, x359001, x359002 => if x44 = true then (if (x354000 == x359000 && (x354001 == x359001 && (x354002 == x359002))) = true then (some (x6 == x8)) else (some false)) else (laws_FnRunClock.l0 k x4 0 x354000 x354001 x354002 x349000 x349001 x349002)
def laws_FnRunClock.l0 : Nat → List (S40) → Int → Int → Int → Int → Int → Int → Int → Option (Bool)
 | 0, _, _, _, _, _, _, _, _ => none
 | k + 1, x4, x10, x354000, x354001, x354002, x360000, x360001, x360002 => if x10 < (x4.length : Int) then (if 0 ≤ x10 then ((impl_StepClock.f k x360000 x360001 x360002 ((rd_T40 x4 x10).f2) ((rd_T40 x4 x10).f0)).bind fun bt362 => (if bt362.2.2.2 = true then (laws_FnRunClock.l0 k x4 (wrap64 (x10 + 1)) x354000 x354001 x354002 bt362.1 bt362.2.1 bt362.2.2.1) else (some false))) else (none)) else (if (x360000 == x354000 && (x360001 == x354001 && (x360002 == x354002))) = true then ((impl_ValidClock.f x354000 x354001 x354002).bind fun t367 => (some t367)) else (some false))
end
def laws_FnRunClock.f (k : Nat) (l0 : List Int) : Option (Bool) := if (l0.length : Int) > 1048576 then (some true) else ((spec_DrawRunClock.f k l0).bind fun bt342 => ((impl_RunClock.f k bt342.1 bt342.2.1 bt342.2.2.1 bt342.2.2.2).bind fun bt349 => ((spec_RunClock.f k bt342.1 bt342.2.1 bt342.2.2.1 bt342.2.2.2).bind fun bt354 => (if (!(bt349.1 == bt354.1) || (!(bt349.2.1 == bt354.2.1) || (!(bt349.2.2.1 == bt354.2.2.1)))) = true then (laws_FnRunClock.j0 k bt342.2.2.2 bt349.2.2.2 bt354.2.2.2 true bt342.1 bt342.2.1 bt342.2.2.1 bt349.1 bt349.2.1 bt349.2.2.1 bt354.1 bt354.2.1 bt354.2.2.1) else (if (bt349.2.2.2 != bt354.2.2.2) = true then (laws_FnRunClock.j0 k bt342.2.2.2 bt349.2.2.2 bt354.2.2.2 true bt342.1 bt342.2.1 bt342.2.2.1 bt349.1 bt349.2.1 bt349.2.2.1 bt354.1 bt354.2.1 bt354.2.2.1) else (laws_FnRunClock.j0 k bt342.2.2.2 bt349.2.2.2 bt354.2.2.2 (!bt349.2.2.2) bt342.1 bt342.2.1 bt342.2.2.1 bt349.1 bt349.2.1 bt349.2.2.1 bt354.1 bt354.2.1 bt354.2.2.1))))))
theorem laws_FnRunClock.mono_l : ∀ k, (∀ y0 y1 y2 y3 y4 y5 y6 y7 y8 y9 y10 y11 y12, LeO (laws_FnRunClock.j0 k y0 y1 y2 y3 y4 y5 y6 y7 y8 y9 y10 y11 y12) (laws_FnRunClock.j0 (k + 1) y0 y1 y2 y3 y4 y5 y6 y7 y8 y9 y10 y11 y12)) ∧ (∀ y0 y1 y2 y3 y4 y5 y6 y7, LeO (laws_FnRunClock.l0 k y0 y1 y2 y3 y4 y5 y6 y7) (laws_FnRunClock.l0 (k + 1) y0 y1 y2 y3 y4 y5 y6 y7))
 | 0 => ⟨fun _ _ _ _ _ _ _ _ _ _ _ _ _ r h => by simp [laws_FnRunClock.j0] at h, fun _ _ _ _ _ _ _ _ r h => by simp [laws_FnRunClock.l0] at h⟩
 | k + 1 => by
  obtain ⟨ih0, ih1⟩ := laws_FnRunClock.mono_l k
  refine ⟨?_, ?_⟩
  · intro y0 y1 y2 y3 y4 y5 y6 y7 y8 y9 y10 y11 y12
    unfold laws_FnRunClock.j0
    repeat' first
    | (with_reducible exact ih0 _ _ _ _ _ _ _ _ _ _ _ _ _)
    | (with_reducible exact ih1 _ _ _ _ _ _ _ _)
    | (with_reducible exact impl_RunClock.mono _ _ _ _ _)
    | (with_reducible exact impl_StepClock.mono _ _ _ _ _ _)
    | (with_reducible exact spec_DrawRunClock.mono _ _)
    | (with_reducible exact spec_RunClock.mono _ _ _ _ _)
    | (with_reducible exact LeO.refl _)
    | (with_reducible exact LeO.none _)
    | (with_reducible refine LeO.ite ?_ ?_)
    | (with_reducible refine LeO.bind ?_ (fun _ => ?_))
    | exact ih0 _ _ _ _ _ _ _ _ _ _ _ _ _
    | exact ih1 _ _ _ _ _ _ _ _
    | exact impl_RunClock.mono _ _ _ _ _
    | exact impl_StepClock.mono _ _ _ _ _ _
    | exact spec_DrawRunClock.mono _ _
    | exact spec_RunClock.mono _ _ _ _ _
    | exact LeO.none _
    | refine LeO.ite ?_ ?_
    | refine LeO.bind ?_ (fun _ => ?_)
  · intro y0 y1 y2 y3 y4 y5 y6 y7
    unfold laws_FnRunClock.l0
    repeat' first
    | (with_reducible exact ih0 _ _ _ _ _ _ _ _ _ _ _ _ _)
    | (with_reducible exact ih1 _ _ _ _ _ _ _ _)
    | (with_reducible exact impl_RunClock.mono _ _ _ _ _)
    | (with_reducible exact impl_StepClock.mono _ _ _ _ _ _)
    | (with_reducible exact spec_DrawRunClock.mono _ _)
    | (with_reducible exact spec_RunClock.mono _ _ _ _ _)
    | (with_reducible exact LeO.refl _)
    | (with_reducible exact LeO.none _)
    | (with_reducible refine LeO.ite ?_ ?_)
    | (with_reducible refine LeO.bind ?_ (fun _ => ?_))
    | exact ih0 _ _ _ _ _ _ _ _ _ _ _ _ _
    | exact ih1 _ _ _ _ _ _ _ _
    | exact impl_RunClock.mono _ _ _ _ _
    | exact impl_StepClock.mono _ _ _ _ _ _
    | exact spec_DrawRunClock.mono _ _
    | exact spec_RunClock.mono _ _ _ _ _
    | exact LeO.none _
    | refine LeO.ite ?_ ?_
    | refine LeO.bind ?_ (fun _ => ?_)
theorem laws_FnRunClock.mono : ∀ a0 k, LeO (laws_FnRunClock.f k a0) (laws_FnRunClock.f (k + 1) a0) := by
 intro a0 k
 obtain ⟨ih0, ih1⟩ := laws_FnRunClock.mono_l k
 unfold laws_FnRunClock.f
 repeat' first
  | (with_reducible exact ih0 _ _ _ _ _ _ _ _ _ _ _ _ _)
  | (with_reducible exact ih1 _ _ _ _ _ _ _ _)
  | (with_reducible exact impl_RunClock.mono _ _ _ _ _)
  | (with_reducible exact impl_StepClock.mono _ _ _ _ _ _)
  | (with_reducible exact spec_DrawRunClock.mono _ _)
  | (with_reducible exact spec_RunClock.mono _ _ _ _ _)
  | (with_reducible exact LeO.refl _)
  | (with_reducible exact LeO.none _)
  | (with_reducible refine LeO.ite ?_ ?_)
  | (with_reducible refine LeO.bind ?_ (fun _ => ?_))
  | exact ih0 _ _ _ _ _ _ _ _ _ _ _ _ _
  | exact ih1 _ _ _ _ _ _ _ _
  | exact impl_RunClock.mono _ _ _ _ _
  | exact impl_StepClock.mono _ _ _ _ _ _
  | exact spec_DrawRunClock.mono _ _
  | exact spec_RunClock.mono _ _ _ _ _
  | exact LeO.none _
  | refine LeO.ite ?_ ?_
  | refine LeO.bind ?_ (fun _ => ?_)
def laws_FnRunClock.T12 : Bool × List (List Nat × List Nat) := (true, [([], []), ([], []), ([], []), ([1, 2], [1, 2]), ([3], [3]), ([4], [4]), ([], []), ([], []), ([6, 7], [6, 7]), ([8], [8]), ([9], [9]), ([0, 5, 10], [0, 5, 10]), ([11], [11]), ([12], [12]), ([12], [12]), ([], []), ([15, 13, 11, 0, 1, 2, 3, 4, 5, 6, 7, 8, 9, 10, 11, 12, 13, 15], [13, 15]), ([14, 16, 0, 1, 2, 3, 4, 5, 6, 7, 8, 9, 10, 11, 12, 13, 14, 15, 16], [14])])
def laws_FnRunClock.B12 : List Nat := [0, 0, 0, 6, 14, 30, 0, 0, 192, 448, 960, 2047, 4095, 8191, 8191, 0, 49151, 131071]
theorem laws_FnRunClock.tab12 : rtab .any (opsOf Try.f4 12) = laws_FnRunClock.T12 := by kernel_rfl
theorem laws_FnRunClock.bits12 : waitsOk laws_FnRunClock.T12.2 laws_FnRunClock.B12 = true := by kernel_rfl
set_option maxHeartbeats 8000000 in
set_option maxRecDepth 100000 in
theorem laws_FnRunClock.calls (k : Nat) (A0 : Option Addr) (c0 : Nat) (l0 : List Int) (r : Bool) (w : World) (hr0 : Kd.C (Kd.int .u8) w A0 l0.length l0) (hc0 : l0.length ≤ c0) (h : laws_FnRunClock.f k l0 = some r) :
 Calls Try.prog 4 #[.slice A0 l0.length c0] w fun e w' => e = .returned (.bool r) ∧ Below w.heap.size w w' := by
 have hu26 := Try.underlying26
 have HR0 := Aside0.mk hr0
 have HC0 := Aside0.mk hc0
 clear hr0 hc0
 have HB := Aside0.mk (Below.refl w.heap.size w)
 have H : (if (l0.length : Int) > 1048576 then (some true) else ((spec_DrawRunClock.f k l0).bind fun bt342 => ((impl_RunClock.f k bt342.1 bt342.2.1 bt342.2.2.1 bt342.2.2.2).bind fun bt349 => ((spec_RunClock.f k bt342.1 bt342.2.1 bt342.2.2.1 bt342.2.2.2).bind fun bt354 => (if (!(bt349.1 == bt354.1) || (!(bt349.2.1 == bt354.2.1) || (!(bt349.2.2.1 == bt354.2.2.1)))) = true then (laws_FnRunClock.j0 k bt342.2.2.2 bt349.2.2.2 bt354.2.2.2 true bt342.1 bt342.2.1 bt342.2.2.1 bt349.1 bt349.2.1 bt349.2.2.1 bt354.1 bt354.2.1 bt354.2.2.1) else (if (bt349.2.2.2 != bt354.2.2.2) = true then (laws_FnRunClock.j0 k bt342.2.2.2 bt349.2.2.2 bt354.2.2.2 true bt342.1 bt342.2.1 bt342.2.2.1 bt349.1 bt349.2.1 bt349.2.2.1 bt354.1 bt354.2.1 bt354.2.2.1) else (laws_FnRunClock.j0 k bt342.2.2.2 bt349.2.2.2 bt354.2.2.2 (!bt349.2.2.2) bt342.1 bt342.2.1 bt342.2.2.1 bt349.1 bt349.2.1 bt349.2.2.1 bt354.1 bt354.2.1 bt354.2.2.1))))))) = some r := h
 clear h
 by_cases c2 : (l0.length : Int) > 1048576
 · rw [if_pos c2] at H
   have c2b0 : decide (1048576 < (l0.length : Int)) = true := decide_eq_true c2
   have c2b1 : decide (1048576 < l0.length) = true := decide_eq_true (by omega)
   clear c2
   obtain rfl := Option.some.inj H
   go_enter Try.func4, Try.ntmps4
   go_wp2
   go_ret
   exact ⟨by first | rfl | (simp [errW_none, errW_some] <;> rfl) | (simp [*, errW_none, errW_some] <;> rfl), by repeat (first | (with_reducible first | exact HB.out | apply below_alloc | apply pw_below_drewN | apply below_drew1) | exact HB.out)⟩
 · rw [if_neg c2] at H
   have c2b0 : decide (1048576 < (l0.length : Int)) = false := decide_eq_false c2
   have c2b1 : decide (1048576 < l0.length) = false := decide_eq_false (by omega)
   clear c2
   replace H := Option.bind_eq_some_iff.mp H
   obtain ⟨⟨t342, t343, t344, t345⟩, A30, H⟩ := H
   replace H : ((impl_RunClock.f k t342 t343 t344 t345).bind fun bt349 => ((spec_RunClock.f k t342 t343 t344 t345).bind fun bt354 => (if (!(bt349.1 == bt354.1) || (!(bt349.2.1 == bt354.2.1) || (!(bt349.2.2.1 == bt354.2.2.1)))) = true then (laws_FnRunClock.j0 k t345 bt349.2.2.2 bt354.2.2.2 true t342 t343 t344 bt349.1 bt349.2.1 bt349.2.2.1 bt354.1 bt354.2.1 bt354.2.2.1) else (if (bt349.2.2.2 != bt354.2.2.2) = true then (laws_FnRunClock.j0 k t345 bt349.2.2.2 bt354.2.2.2 true t342 t343 t344 bt349.1 bt349.2.1 bt349.2.2.1 bt354.1 bt354.2.1 bt354.2.2.1) else (laws_FnRunClock.j0 k t345 bt349.2.2.2 bt354.2.2.2 (!bt349.2.2.2) t342 t343 t344 bt349.1 bt349.2.1 bt349.2.2.1 bt354.1 bt354.2.1 bt354.2.2.1))))) = some r := H
   have A3 := Aside0.mk A30
   clear A30
   replace H := Option.bind_eq_some_iff.mp H
   obtain ⟨⟨t349, t350, t351, t352⟩, A40, H⟩ := H
   replace H : ((spec_RunClock.f k t342 t343 t344 t345).bind fun bt354 => (if (!(t349 == bt354.1) || (!(t350 == bt354.2.1) || (!(t351 == bt354.2.2.1)))) = true then (laws_FnRunClock.j0 k t345 t352 bt354.2.2.2 true t342 t343 t344 t349 t350 t351 bt354.1 bt354.2.1 bt354.2.2.1) else (if (t352 != bt354.2.2.2) = true then (laws_FnRunClock.j0 k t345 t352 bt354.2.2.2 true t342 t343 t344 t349 t350 t351 bt354.1 bt354.2.1 bt354.2.2.1) else (laws_FnRunClock.j0 k t345 t352 bt354.2.2.2 (!t352) t342 t343 t344 t349 t350 t351 bt354.1 bt354.2.1 bt354.2.2.1)))) = some r := H
   have A4 := Aside0.mk A40
   clear A40
   replace H := Option.bind_eq_some_iff.mp H
   obtain ⟨⟨t354, t355, t356, t357⟩, A50, H⟩ := H
   replace H : (if (!(t349 == t354) || (!(t350 == t355) || (!(t351 == t356)))) = true then (laws_FnRunClock.j0 k t345 t352 t357 true t342 t343 t344 t349 t350 t351 t354 t355 t356) else (if (t352 != t357) = true then (laws_FnRunClock.j0 k t345 t352 t357 true t342 t343 t344 t349 t350 t351 t354 t355 t356) else (laws_FnRunClock.j0 k t345 t352 t357 (!t352) t342 t343 t344 t349 t350 t351 t354 t355 t356))) = some r := H
   have A5 := Aside0.mk A50
   clear A50
   have HC6 := Aside0.mk H
   clear H
   go_enter Try.func4, Try.ntmps4
   go_upto_region 6 with (first | ((with_reducible refine gate_callee (f := 14) rfl ?_); refine goesL_ (some 18) rfl rfl Try.func14 (by kernel_rfl) rfl #[.slice A0 l0.length c0] rfl (by (try simp only [List.map_toArray, List.map_cons, List.map_nil]); first | done | rfl | (simp only [List.length_drop, List.length_take]; rfl)) ?_; (with_reducible refine (spec_DrawRunClock.calls k _ _ l0 t342 t343 t344 t345 _ ?side1 ?side2 A3.out).mono ?_); (case side1 => repeat (first | exact HR0.out | (with_reducible refine Kd.C_alloc ?_ _) | (with_reducible refine Kd.C_drewN ?_ _) | (with_reducible refine Kd.C_drew ?_))); (case side2 => exact HC0.out); rintro e w7 ⟨v346, rfl, ho0, hb⟩; refine ⟨_, rfl, ?_⟩; have n0_ := Aside0.mk (Kd.R_lower ho0 (below_size (by repeat (first | (with_reducible first | exact HB.out | apply below_alloc | apply pw_below_drewN | apply below_drew1) | exact HB.out)))); have n1_ := Aside0.mk (below_step (by repeat (first | (with_reducible first | exact HB.out | apply below_alloc | apply pw_below_drewN | apply below_drew1) | exact HB.out)) hb); clear HB; have HO347 := n0_; have HB := n1_; clear n0_ n1_; (try clear hb); (try clear hb2); (try clear hk); (try clear hi); (try clear ho0)) | ((with_reducible refine gate_dst (N := 3) rfl ?_); refine box_event ?hg (N := 3) ?hd (cs := #[.int .i64 0, .int .i64 0, .int .i64 0]) (t := 26) ?hr ?_; (case hd => rfl); (case hg => rfl); (case hr => first | (go_simp; done) | (go_simp; rfl)); intro gb348 hg w8 hbox hb; have n0_ := Aside0.mk (Kd.R_below (by (with_reducible repeat (first | apply Kd.R_alloc | apply Kd.R_drewN | apply Kd.R_drew)); exact HO347.out) hb); have n1_ := Aside0.mk (below_step (by repeat (first | (with_reducible first | exact HB.out | apply below_alloc | apply pw_below_drewN | apply below_drew1) | exact HB.out)) hb); have n2_ := Aside0.mk (hbox); have n3_ := Aside0.mk ((by rw [hg]; exact (below_size (by repeat (first | (with_reducible first | exact HB.out | apply below_alloc | apply pw_below_drewN | apply below_drew1) | exact HB.out))) : w.heap.size ≤ gb348)); have n4_ := Aside0.mk ((by rw [hg]; exact (below_size (by repeat (first | (with_reducible first | exact HB.out | apply below_alloc | apply pw_below_drewN | apply below_drew1) | exact HB.out))) : w.heap.size ≤ gb348)); clear HO347; clear HB; have HO347 := n0_; have HB := n1_; have BK348 := n2_; have GW348 := n3_; have GE348 := n4_; clear n0_ n1_ n2_ n3_ n4_; clear hb hbox hg; have hcz9_0 : w8.cell? ⟨gb348, 0, none⟩ = some (.int .i64 0) := (blk_cell BK348.out 0).trans rfl; have hcz9_1 : w8.cell? ⟨gb348, 1, none⟩ = some (.int .i64 0) := (blk_cell BK348.out 1).trans rfl; have hcz9_2 : w8.cell? ⟨gb348, 2, none⟩ = some (.int .i64 0) := (blk_cell BK348.out 2).trans rfl; have hfz9_0 := blk_frozen BK348.out 0; have hfz9_1 := blk_frozen BK348.out 1; have hfz9_2 := blk_frozen BK348.out 2; obtain ⟨Ao10, co10, eo10⟩ := Kd.R_slice HO347.out; subst eo10) | ((with_reducible refine gate_callee (f := 11) rfl ?_); refine goesL_ (some 24) rfl rfl Try.func11 (by kernel_rfl) rfl #[.agg #[.int .i64 t342, .int .i64 t343, .int .i64 t344], .slice Ao10 t345.length co10] rfl (by (try simp only [List.map_toArray, List.map_cons, List.map_nil]); first | done | rfl | (simp only [List.length_drop, List.length_take]; rfl)) ?_; (with_reducible refine (impl_RunClock.calls k t342 t343 t344 _ _ t345 t349 t350 t351 t352 _ ?side1 ?side2 A4.out).mono ?_); (case side1 => refine (Kd.R_reads' (e := 40) (base := w.heap.size) (ok := fun k_ => True) (n := t345.length) (c := co10) ?_).2.2; exact (by (with_reducible repeat (first | apply Kd.R_alloc | apply Kd.R_drewN | apply Kd.R_drew)); exact (Kd.R_mono (Kd.R_far (p := ⟨gb348, 2, none⟩) (Kd.R_far (p := ⟨gb348, 1, none⟩) (Kd.R_far (p := ⟨gb348, 0, none⟩) (Kd.R_types HO347.out BK348.out (by decide)) (fun _ hk => hk.2) (.int .i64 t342)) (fun _ hk => hk.2) (.int .i64 t343)) (fun _ hk => hk.2) (.int .i64 t344)) (fun _ h_ => h_.1)))); (case side2 => exact (Kd.R_reads' HO347.out).2.1); rintro e w11 ⟨rfl, hb⟩; refine ⟨_, rfl, ?_⟩; have n0_ := Aside0.mk (Kd.R_below (by (with_reducible repeat (first | apply Kd.R_alloc | apply Kd.R_drewN | apply Kd.R_drew)); exact (Kd.R_mono (Kd.R_far (p := ⟨gb348, 2, none⟩) (Kd.R_far (p := ⟨gb348, 1, none⟩) (Kd.R_far (p := ⟨gb348, 0, none⟩) (Kd.R_types HO347.out BK348.out (by decide)) (fun _ hk => hk.2) (.int .i64 t342)) (fun _ hk => hk.2) (.int .i64 t343)) (fun _ hk => hk.2) (.int .i64 t344)) (fun _ h_ => h_.1))) hb); have n1_ := Aside0.mk (blk_below (g := gb348) (o := .cells #[.int .i64 t342, .int .i64 t343, .int .i64 t344] 26 (0, 0)) (by (with_reducible repeat (first | apply blk_drewN | apply blk_drew | apply blk_alloc)); refine blk_put (cs := #[.int .i64 t342, .int .i64 t343, .int .i64 0]) ?_ 2 _ rfl; (with_reducible repeat (first | apply blk_drewN | apply blk_drew | apply blk_alloc)); refine blk_put (cs := #[.int .i64 t342, .int .i64 0, .int .i64 0]) ?_ 1 _ rfl; (with_reducible repeat (first | apply blk_drewN | apply blk_drew | apply blk_alloc)); refine blk_put (cs := #[.int .i64 0, .int .i64 0, .int .i64 0]) ?_ 0 _ rfl; (with_reducible repeat (first | apply blk_drewN | apply blk_drew | apply blk_alloc)); exact BK348.out) hb); have n2_ := Aside0.mk (below_step (by repeat (first | (with_reducible first | exact HB.out | apply below_alloc | apply pw_below_drewN | apply below_drew1 | refine below_set ?_ GE348.out) | exact HB.out)) hb); clear HO347; clear BK348; clear HB; have HO347 := n0_; have BK348 := n1_; have HB := n2_; clear n0_ n1_ n2_; (try clear hb); (try clear hb2); (try clear hk); (try clear hi)) | ((with_reducible refine gate_dst (N := 5) rfl ?_); refine box_event ?hg (N := 5) ?hd (cs := #[.int .i64 0, .int .i64 0, .int .i64 0]) (t := 26) ?hr ?_; (case hd => rfl); (case hg => rfl); (case hr => first | (go_simp; done) | (go_simp; rfl)); intro gb353 hg w12 hbox hb; have n0_ := Aside0.mk (Kd.R_below (by (with_reducible repeat (first | apply Kd.R_alloc | apply Kd.R_drewN | apply Kd.R_drew)); exact HO347.out) hb); have n1_ := Aside0.mk (blk_below (g := gb348) (o := .cells #[.int .i64 t342, .int .i64 t343, .int .i64 t344] 26 (0, 0)) (by (with_reducible repeat (first | apply blk_drewN | apply blk_drew | apply blk_alloc)); exact BK348.out) hb); have n2_ := Aside0.mk (below_step (by repeat (first | (with_reducible first | exact HB.out | apply below_alloc | apply pw_below_drewN | apply below_drew1 | refine below_set ?_ GE348.out) | exact HB.out)) hb); have n3_ := Aside0.mk (hbox); have n4_ := Aside0.mk ((by rw [hg]; exact (below_size (by repeat (first | (with_reducible first | exact HB.out | apply below_alloc | apply pw_below_drewN | apply below_drew1 | refine below_set ?_ GE348.out) | exact HB.out))) : w.heap.size ≤ gb353)); have n5_ := Aside0.mk ((by rw [hg]; exact (below_size (by repeat (first | (with_reducible first | exact HB.out | apply below_alloc | apply pw_below_drewN | apply below_drew1 | refine below_set ?_ GE348.out) | exact HB.out))) : w.heap.size ≤ gb353)); have n6_ := Aside0.mk ((by rw [hg]; exact Nat.ne_of_lt (blk_lt (g := gb348) (o := .cells #[.int .i64 t342, .int .i64 t343, .int .i64 t344] 26 (0, 0)) (by (with_reducible repeat (first | apply blk_drewN | apply blk_drew | apply blk_alloc)); exact BK348.out)) : gb348 ≠ gb353)); have n7_ := Aside0.mk ((by rw [hg]; exact Nat.ne_of_gt (blk_lt (g := gb348) (o := .cells #[.int .i64 t342, .int .i64 t343, .int .i64 t344] 26 (0, 0)) (by (with_reducible repeat (first | apply blk_drewN | apply blk_drew | apply blk_alloc)); exact BK348.out)) : gb353 ≠ gb348)); clear HO347; clear BK348; clear HB; have HO347 := n0_; have BK348 := n1_; have HB := n2_; have BK353 := n3_; have GW353 := n4_; have GE353 := n5_; have NB348_353 := n6_; have NB353_348 := n7_; clear n0_ n1_ n2_ n3_ n4_ n5_ n6_ n7_; clear hb hbox hg; have hnb13 := NB353_348.out; have hnc13 := NB348_353.out; have hcz14_0 : w12.cell? ⟨gb353, 0, none⟩ = some (.int .i64 0) := (blk_cell BK353.out 0).trans rfl; have hcz14_1 : w12.cell? ⟨gb353, 1, none⟩ = some (.int .i64 0) := (blk_cell BK353.out 1).trans rfl; have hcz14_2 : w12.cell? ⟨gb353, 2, none⟩ = some (.int .i64 0) := (blk_cell BK353.out 2).trans rfl; have hfz14_0 := blk_frozen BK353.out 0; have hfz14_1 := blk_frozen BK353.out 1; have hfz14_2 := blk_frozen BK353.out 2; have hcz15_0 : w12.cell? ⟨gb348, 0, none⟩ = some (.int .i64 t342) := (blk_cell BK348.out 0).trans rfl; have hcz15_1 : w12.cell? ⟨gb348, 1, none⟩ = some (.int .i64 t343) := (blk_cell BK348.out 1).trans rfl; have hcz15_2 : w12.cell? ⟨gb348, 2, none⟩ = some (.int .i64 t344) := (blk_cell BK348.out 2).trans rfl; have hfz15_0 := blk_frozen BK348.out 0; have hfz15_1 := blk_frozen BK348.out 1; have hfz15_2 := blk_frozen BK348.out 2) | ((with_reducible refine gate_callee (f := 8) rfl ?_); refine goesL_ (some 30) rfl rfl Try.func8 (by kernel_rfl) rfl #[.agg #[.int .i64 t342, .int .i64 t343, .int .i64 t344], .slice Ao10 t345.length co10] rfl (by (try simp only [List.map_toArray, List.map_cons, List.map_nil]); first | done | rfl | (simp only [List.length_drop, List.length_take]; rfl)) ?_; (with_reducible refine (spec_RunClock.calls k t342 t343 t344 _ _ t345 t354 t355 t356 t357 _ ?side1 ?side2 A5.out).mono ?_); (case side1 => refine (Kd.R_reads' (e := 40) (base := w.heap.size) (ok := fun k_ => True) (n := t345.length) (c := co10) ?_).2.2; exact (by (with_reducible repeat (first | apply Kd.R_alloc | apply Kd.R_drewN | apply Kd.R_drew)); exact (Kd.R_mono (Kd.R_far (p := ⟨gb353, 2, none⟩) (Kd.R_far (p := ⟨gb353, 1, none⟩) (Kd.R_far (p := ⟨gb353, 0, none⟩) (Kd.R_types HO347.out BK353.out (by decide)) (fun _ hk => hk.2) (.int .i64 t349)) (fun _ hk => hk.2) (.int .i64 t350)) (fun _ hk => hk.2) (.int .i64 t351)) (fun _ h_ => h_.1)))); (case side2 => exact (Kd.R_reads' HO347.out).2.1); rintro e w16 ⟨rfl, hb⟩; refine ⟨_, rfl, ?_⟩; have n0_ := Aside0.mk (Kd.R_below (by (with_reducible repeat (first | apply Kd.R_alloc | apply Kd.R_drewN | apply Kd.R_drew)); exact (Kd.R_mono (Kd.R_far (p := ⟨gb353, 2, none⟩) (Kd.R_far (p := ⟨gb353, 1, none⟩) (Kd.R_far (p := ⟨gb353, 0, none⟩) (Kd.R_types HO347.out BK353.out (by decide)) (fun _ hk => hk.2) (.int .i64 t349)) (fun _ hk => hk.2) (.int .i64 t350)) (fun _ hk => hk.2) (.int .i64 t351)) (fun _ h_ => h_.1))) hb); have n1_ := Aside0.mk (blk_below (g := gb348) (o := .cells #[.int .i64 t342, .int .i64 t343, .int .i64 t344] 26 (0, 0)) (by (with_reducible repeat (first | apply blk_drewN | apply blk_drew | apply blk_alloc)); refine blk_far ?_ NB348_353.out _; (with_reducible repeat (first | apply blk_drewN | apply blk_drew | apply blk_alloc)); refine blk_far ?_ NB348_353.out _; (with_reducible repeat (first | apply blk_drewN | apply blk_drew | apply blk_alloc)); refine blk_far ?_ NB348_353.out _; (with_reducible repeat (first | apply blk_drewN | apply blk_drew | apply blk_alloc)); exact BK348.out) hb); have n2_ := Aside0.mk (blk_below (g := gb353) (o := .cells #[.int .i64 t349, .int .i64 t350, .int .i64 t351] 26 (0, 0)) (by (with_reducible repeat (first | apply blk_drewN | apply blk_drew | apply blk_alloc)); refine blk_put (cs := #[.int .i64 t349, .int .i64 t350, .int .i64 0]) ?_ 2 _ rfl; (with_reducible repeat (first | apply blk_drewN | apply blk_drew | apply blk_alloc)); refine blk_put (cs := #[.int .i64 t349, .int .i64 0, .int .i64 0]) ?_ 1 _ rfl; (with_reducible repeat (first | apply blk_drewN | apply blk_drew | apply blk_alloc)); refine blk_put (cs := #[.int .i64 0, .int .i64 0, .int .i64 0]) ?_ 0 _ rfl; (with_reducible repeat (first | apply blk_drewN | apply blk_drew | apply blk_alloc)); exact BK353.out) hb); have n3_ := Aside0.mk (below_step (by repeat (first | (with_reducible first | exact HB.out | apply below_alloc | apply pw_below_drewN | apply below_drew1 | refine below_set ?_ GE348.out | refine below_set ?_ GE353.out) | exact HB.out)) hb); clear HO347; clear BK348; clear BK353; clear HB; have HO347 := n0_; have BK348 := n1_; have BK353 := n2_; have HB := n3_; clear n0_ n1_ n2_ n3_; (try clear hb); (try clear hb2); (try clear hk); (try clear hi)) | ((with_reducible refine gate_dst (N := 7) rfl ?_); refine box_event ?hg (N := 7) ?hd (cs := #[.int .i64 0, .int .i64 0, .int .i64 0]) (t := 26) ?hr ?_; (case hd => rfl); (case hg => rfl); (case hr => first | (go_simp; done) | (go_simp; rfl)); intro gb358 hg w17 hbox hb; have n0_ := Aside0.mk (Kd.R_below (by (with_reducible repeat (first | apply Kd.R_alloc | apply Kd.R_drewN | apply Kd.R_drew)); exact HO347.out) hb); have n1_ := Aside0.mk (blk_below (g := gb348) (o := .cells #[.int .i64 t342, .int .i64 t343, .int .i64 t344] 26 (0, 0)) (by (with_reducible repeat (first | apply blk_drewN | apply blk_drew | apply blk_alloc)); exact BK348.out) hb); have n2_ := Aside0.mk (blk_below (g := gb353) (o := .cells #[.int .i64 t349, .int .i64 t350, .int .i64 t351] 26 (0, 0)) (by (with_reducible repeat (first | apply blk_drewN | apply blk_drew | apply blk_alloc)); exact BK353.out) hb); have n3_ := Aside0.mk (below_step (by repeat (first | (with_reducible first | exact HB.out | apply below_alloc | apply pw_below_drewN | apply below_drew1 | refine below_set ?_ GE348.out | refine below_set ?_ GE353.out) | exact HB.out)) hb); have n4_ := Aside0.mk (hbox); have n5_ := Aside0.mk ((by rw [hg]; exact (below_size (by repeat (first | (with_reducible first | exact HB.out | apply below_alloc | apply pw_below_drewN | apply below_drew1 | refine below_set ?_ GE348.out | refine below_set ?_ GE353.out) | exact HB.out))) : w.heap.size ≤ gb358)); have n6_ := Aside0.mk ((by rw [hg]; exact (below_size (by repeat (first | (with_reducible first | exact HB.out | apply below_alloc | apply pw_below_drewN | apply below_drew1 | refine below_set ?_ GE348.out | refine below_set ?_ GE353.out) | exact HB.out))) : w.heap.size ≤ gb358)); have n7_ := Aside0.mk ((by rw [hg]; exact Nat.ne_of_lt (blk_lt (g := gb348) (o := .cells #[.int .i64 t342, .int .i64 t343, .int .i64 t344] 26 (0, 0)) (by (with_reducible repeat (first | apply blk_drewN | apply blk_drew | apply blk_alloc)); exact BK348.out)) : gb348 ≠ gb358)); have n8_ := Aside0.mk ((by rw [hg]; exact Nat.ne_of_gt (blk_lt (g := gb348) (o := .cells #[.int .i64 t342, .int .i64 t343, .int .i64 t344] 26 (0, 0)) (by (with_reducible repeat (first | apply blk_drewN | apply blk_drew | apply blk_alloc)); exact BK348.out)) : gb358 ≠ gb348)); have n9_ := Aside0.mk ((by rw [hg]; exact Nat.ne_of_lt (blk_lt (g := gb353) (o := .cells #[.int .i64 t349, .int .i64 t350, .int .i64 t351] 26 (0, 0)) (by (with_reducible repeat (first | apply blk_drewN | apply blk_drew | apply blk_alloc)); exact BK353.out)) : gb353 ≠ gb358)); have n10_ := Aside0.mk ((by rw [hg]; exact Nat.ne_of_gt (blk_lt (g := gb353) (o := .cells #[.int .i64 t349, .int .i64 t350, .int .i64 t351] 26 (0, 0)) (by (with_reducible repeat (first | apply blk_drewN | apply blk_drew | apply blk_alloc)); exact BK353.out)) : gb358 ≠ gb353)); clear HO347; clear BK348; clear BK353; clear HB; have HO347 := n0_; have BK348 := n1_; have BK353 := n2_; have HB := n3_; have BK358 := n4_; have GW358 := n5_; have GE358 := n6_; have NB348_358 := n7_; have NB358_348 := n8_; have NB353_358 := n9_; have NB358_353 := n10_; clear n0_ n1_ n2_ n3_ n4_ n5_ n6_ n7_ n8_ n9_ n10_; clear hb hbox hg; have hnb18 := NB358_348.out; have hnc18 := NB348_358.out; have hnb19 := NB358_353.out; have hnc19 := NB353_358.out; have hcz20_0 : w17.cell? ⟨gb358, 0, none⟩ = some (.int .i64 0) := (blk_cell BK358.out 0).trans rfl; have hcz20_1 : w17.cell? ⟨gb358, 1, none⟩ = some (.int .i64 0) := (blk_cell BK358.out 1).trans rfl; have hcz20_2 : w17.cell? ⟨gb358, 2, none⟩ = some (.int .i64 0) := (blk_cell BK358.out 2).trans rfl; have hfz20_0 := blk_frozen BK358.out 0; have hfz20_1 := blk_frozen BK358.out 1; have hfz20_2 := blk_frozen BK358.out 2))
   (try simp only [Act.put, List.setIfInBounds_toArray, List.set_cons_zero, List.set_cons_succ])
   go_cut [44] (fun v44 wc => ∃ (kq : Nat) (x44_5 : Bool), v44 = .bool x44_5 ∧ Aside0 (laws_FnRunClock.j0 kq t345 t352 t357 x44_5 t342 t343 t344 t349 t350 t351 t354 t355 t356 = some r) ∧ Aside0 (kq ≤ k) ∧ Aside0 (Kd.R k40 40 wc w.heap.size (fun _ => True) (.slice Ao10 t345.length co10) t345) ∧ Aside0 (wc.heap[gb348]? = some (.cells #[.int .i64 t342, .int .i64 t343, .int .i64 t344] 26 (0, 0))) ∧ Aside0 (wc.heap[gb353]? = some (.cells #[.int .i64 t349, .int .i64 t350, .int .i64 t351] 26 (0, 0))) ∧ Aside0 (wc.heap[gb358]? = some (.cells #[.int .i64 t354, .int .i64 t355, .int .i64 t356] 26 (0, 0))) ∧ Aside0 (Below w.heap.size w wc))
   case first =>
    have H := HC6.out
    clear HC6
    by_cases c21 : (!(t349 == t354) || (!(t350 == t355) || (!(t351 == t356)))) = true
    · rw [if_pos c21] at H
      have c21b0 : (!(t349 == t354) || (!(t350 == t355) || (!(t351 == t356)))) = true := c21
      clear c21
      (first | rw [c21b0] | (simp only [i64_w, i32_w]; rw [c21b0]) | skip)
      have H' := Aside0.mk H
      clear H
      have hnb22 := NB353_348.out
      have hnc22 := NB348_353.out
      have hnb23 := NB353_358.out
      have hnc23 := NB358_353.out
      have hcz24_0 : w17.cell? ⟨gb353, 0, none⟩ = some (.int .i64 t349) := (blk_cell BK353.out 0).trans rfl
      have hcz24_1 : w17.cell? ⟨gb353, 1, none⟩ = some (.int .i64 t350) := (blk_cell BK353.out 1).trans rfl
      have hcz24_2 : w17.cell? ⟨gb353, 2, none⟩ = some (.int .i64 t351) := (blk_cell BK353.out 2).trans rfl
      have hfz24_0 := blk_frozen BK353.out 0
      have hfz24_1 := blk_frozen BK353.out 1
      have hfz24_2 := blk_frozen BK353.out 2
      have hnb25 := NB358_348.out
      have hnc25 := NB348_358.out
      have hcz26_0 : w17.cell? ⟨gb358, 0, none⟩ = some (.int .i64 0) := (blk_cell BK358.out 0).trans rfl
      have hcz26_1 : w17.cell? ⟨gb358, 1, none⟩ = some (.int .i64 0) := (blk_cell BK358.out 1).trans rfl
      have hcz26_2 : w17.cell? ⟨gb358, 2, none⟩ = some (.int .i64 0) := (blk_cell BK358.out 2).trans rfl
      have hfz26_0 := blk_frozen BK358.out 0
      have hfz26_1 := blk_frozen BK358.out 1
      have hfz26_2 := blk_frozen BK358.out 2
      go_wp2
      go_meet
      case rel => exact ⟨_, (true), (by first | rfl | (simp; done) | (simp [*]; done)), H', ⟨by first | omega | exact Nat.le_refl _⟩, ⟨by (with_reducible repeat (first | apply Kd.R_alloc | apply Kd.R_drewN | apply Kd.R_drew)); exact Kd.R_mono (Kd.R_far (p := ⟨gb358, 2, none⟩) (Kd.R_far (p := ⟨gb358, 1, none⟩) (Kd.R_far (p := ⟨gb358, 0, none⟩) (Kd.R_types HO347.out BK358.out (by decide)) (fun _ hk => hk.2) (.int .i64 t354)) (fun _ hk => hk.2) (.int .i64 t355)) (fun _ hk => hk.2) (.int .i64 t356)) (fun _ hk => trivial)⟩, ⟨by (with_reducible repeat (first | apply blk_drewN | apply blk_drew | apply blk_alloc)); refine blk_far ?_ NB348_358.out _; (with_reducible repeat (first | apply blk_drewN | apply blk_drew | apply blk_alloc)); refine blk_far ?_ NB348_358.out _; (with_reducible repeat (first | apply blk_drewN | apply blk_drew | apply blk_alloc)); refine blk_far ?_ NB348_358.out _; (with_reducible repeat (first | apply blk_drewN | apply blk_drew | apply blk_alloc)); exact BK348.out⟩, ⟨by (with_reducible repeat (first | apply blk_drewN | apply blk_drew | apply blk_alloc)); refine blk_far ?_ NB353_358.out _; (with_reducible repeat (first | apply blk_drewN | apply blk_drew | apply blk_alloc)); refine blk_far ?_ NB353_358.out _; (with_reducible repeat (first | apply blk_drewN | apply blk_drew | apply blk_alloc)); refine blk_far ?_ NB353_358.out _; (with_reducible repeat (first | apply blk_drewN | apply blk_drew | apply blk_alloc)); exact BK353.out⟩, ⟨by (with_reducible repeat (first | apply blk_drewN | apply blk_drew | apply blk_alloc)); refine blk_put (cs := #[.int .i64 t354, .int .i64 t355, .int .i64 0]) ?_ 2 _ rfl; (with_reducible repeat (first | apply blk_drewN | apply blk_drew | apply blk_alloc)); refine blk_put (cs := #[.int .i64 t354, .int .i64 0, .int .i64 0]) ?_ 1 _ rfl; (with_reducible repeat (first | apply blk_drewN | apply blk_drew | apply blk_alloc)); refine blk_put (cs := #[.int .i64 0, .int .i64 0, .int .i64 0]) ?_ 0 _ rfl; (with_reducible repeat (first | apply blk_drewN | apply blk_drew | apply blk_alloc)); exact BK358.out⟩, ⟨by repeat (first | (with_reducible first | exact HB.out | apply below_alloc | apply pw_below_drewN | apply below_drew1 | refine below_set ?_ GE348.out | refine below_set ?_ GE353.out | refine below_set ?_ GE358.out) | exact HB.out)⟩⟩
    · rw [if_neg c21] at H
      have c21b0 : (!(t349 == t354) || (!(t350 == t355) || (!(t351 == t356)))) = false := by simpa using c21
      clear c21
      (first | rw [c21b0] | (simp only [i64_w, i32_w]; rw [c21b0]) | skip)
      by_cases c27 : (t352 != t357) = true
      · rw [if_pos c27] at H
        have c27b0 : (t352 != t357) = true := c27
        (try (have c27b1 : decide (t352 = t357) = false := by simpa using c27))
        (try (have c27b2 : (t352 == t357) = false := by simpa using c27))
        (try (have c27b3 : ¬ (t352 = t357) := by simpa using c27))
        clear c27
        have H' := Aside0.mk H
        clear H
        have hnb28 := NB353_348.out
        have hnc28 := NB348_353.out
        have hnb29 := NB353_358.out
        have hnc29 := NB358_353.out
        have hcz30_0 : w17.cell? ⟨gb353, 0, none⟩ = some (.int .i64 t349) := (blk_cell BK353.out 0).trans rfl
        have hcz30_1 : w17.cell? ⟨gb353, 1, none⟩ = some (.int .i64 t350) := (blk_cell BK353.out 1).trans rfl
        have hcz30_2 : w17.cell? ⟨gb353, 2, none⟩ = some (.int .i64 t351) := (blk_cell BK353.out 2).trans rfl
        have hfz30_0 := blk_frozen BK353.out 0
        have hfz30_1 := blk_frozen BK353.out 1
        have hfz30_2 := blk_frozen BK353.out 2
        have hnb31 := NB358_348.out
        have hnc31 := NB348_358.out
        have hcz32_0 : w17.cell? ⟨gb358, 0, none⟩ = some (.int .i64 0) := (blk_cell BK358.out 0).trans rfl
        have hcz32_1 : w17.cell? ⟨gb358, 1, none⟩ = some (.int .i64 0) := (blk_cell BK358.out 1).trans rfl
        have hcz32_2 : w17.cell? ⟨gb358, 2, none⟩ = some (.int .i64 0) := (blk_cell BK358.out 2).trans rfl
        have hfz32_0 := blk_frozen BK358.out 0
        have hfz32_1 := blk_frozen BK358.out 1
        have hfz32_2 := blk_frozen BK358.out 2
        go_wp2
        go_meet
        case rel => exact ⟨_, (true), (by first | rfl | (simp; done) | (simp [*]; done)), H', ⟨by first | omega | exact Nat.le_refl _⟩, ⟨by (with_reducible repeat (first | apply Kd.R_alloc | apply Kd.R_drewN | apply Kd.R_drew)); exact Kd.R_mono (Kd.R_far (p := ⟨gb358, 2, none⟩) (Kd.R_far (p := ⟨gb358, 1, none⟩) (Kd.R_far (p := ⟨gb358, 0, none⟩) (Kd.R_types HO347.out BK358.out (by decide)) (fun _ hk => hk.2) (.int .i64 t354)) (fun _ hk => hk.2) (.int .i64 t355)) (fun _ hk => hk.2) (.int .i64 t356)) (fun _ hk => trivial)⟩, ⟨by (with_reducible repeat (first | apply blk_drewN | apply blk_drew | apply blk_alloc)); refine blk_far ?_ NB348_358.out _; (with_reducible repeat (first | apply blk_drewN | apply blk_drew | apply blk_alloc)); refine blk_far ?_ NB348_358.out _; (with_reducible repeat (first | apply blk_drewN | apply blk_drew | apply blk_alloc)); refine blk_far ?_ NB348_358.out _; (with_reducible repeat (first | apply blk_drewN | apply blk_drew | apply blk_alloc)); exact BK348.out⟩, ⟨by (with_reducible repeat (first | apply blk_drewN | apply blk_drew | apply blk_alloc)); refine blk_far ?_ NB353_358.out _; (with_reducible repeat (first | apply blk_drewN | apply blk_drew | apply blk_alloc)); refine blk_far ?_ NB353_358.out _; (with_reducible repeat (first | apply blk_drewN | apply blk_drew | apply blk_alloc)); refine blk_far ?_ NB353_358.out _; (with_reducible repeat (first | apply blk_drewN | apply blk_drew | apply blk_alloc)); exact BK353.out⟩, ⟨by (with_reducible repeat (first | apply blk_drewN | apply blk_drew | apply blk_alloc)); refine blk_put (cs := #[.int .i64 t354, .int .i64 t355, .int .i64 0]) ?_ 2 _ rfl; (with_reducible repeat (first | apply blk_drewN | apply blk_drew | apply blk_alloc)); refine blk_put (cs := #[.int .i64 t354, .int .i64 0, .int .i64 0]) ?_ 1 _ rfl; (with_reducible repeat (first | apply blk_drewN | apply blk_drew | apply blk_alloc)); refine blk_put (cs := #[.int .i64 0, .int .i64 0, .int .i64 0]) ?_ 0 _ rfl; (with_reducible repeat (first | apply blk_drewN | apply blk_drew | apply blk_alloc)); exact BK358.out⟩, ⟨by repeat (first | (with_reducible first | exact HB.out | apply below_alloc | apply pw_below_drewN | apply below_drew1 | refine below_set ?_ GE348.out | refine below_set ?_ GE353.out | refine below_set ?_ GE358.out) | exact HB.out)⟩⟩
      · rw [if_neg c27] at H
        have c27b0 : (t352 != t357) = false := by simpa using c27
        (try (have c27b1 : decide (t352 = t357) = true := by simpa using c27))
        (try (have c27b2 : (t352 == t357) = true := by simpa using c27))
        clear c27
        have H' := Aside0.mk H
        clear H
        have hnb33 := NB353_348.out
        have hnc33 := NB348_353.out
        have hnb34 := NB353_358.out
        have hnc34 := NB358_353.out
        have hcz35_0 : w17.cell? ⟨gb353, 0, none⟩ = some (.int .i64 t349) := (blk_cell BK353.out 0).trans rfl
        have hcz35_1 : w17.cell? ⟨gb353, 1, none⟩ = some (.int .i64 t350) := (blk_cell BK353.out 1).trans rfl
        have hcz35_2 : w17.cell? ⟨gb353, 2, none⟩ = some (.int .i64 t351) := (blk_cell BK353.out 2).trans rfl
        have hfz35_0 := blk_frozen BK353.out 0
        have hfz35_1 := blk_frozen BK353.out 1
        have hfz35_2 := blk_frozen BK353.out 2
        have hnb36 := NB358_348.out
        have hnc36 := NB348_358.out
        have hcz37_0 : w17.cell? ⟨gb358, 0, none⟩ = some (.int .i64 0) := (blk_cell BK358.out 0).trans rfl
        have hcz37_1 : w17.cell? ⟨gb358, 1, none⟩ = some (.int .i64 0) := (blk_cell BK358.out 1).trans rfl
        have hcz37_2 : w17.cell? ⟨gb358, 2, none⟩ = some (.int .i64 0) := (blk_cell BK358.out 2).trans rfl
        have hfz37_0 := blk_frozen BK358.out 0
        have hfz37_1 := blk_frozen BK358.out 1
        have hfz37_2 := blk_frozen BK358.out 2
        go_wp2
        go_meet
        case rel => exact ⟨_, (!t352), (by first | rfl | (simp; done) | (simp [*]; done)), H', ⟨by first | omega | exact Nat.le_refl _⟩, ⟨by (with_reducible repeat (first | apply Kd.R_alloc | apply Kd.R_drewN | apply Kd.R_drew)); exact Kd.R_mono (Kd.R_far (p := ⟨gb358, 2, none⟩) (Kd.R_far (p := ⟨gb358, 1, none⟩) (Kd.R_far (p := ⟨gb358, 0, none⟩) (Kd.R_types HO347.out BK358.out (by decide)) (fun _ hk => hk.2) (.int .i64 t354)) (fun _ hk => hk.2) (.int .i64 t355)) (fun _ hk => hk.2) (.int .i64 t356)) (fun _ hk => trivial)⟩, ⟨by (with_reducible repeat (first | apply blk_drewN | apply blk_drew | apply blk_alloc)); refine blk_far ?_ NB348_358.out _; (with_reducible repeat (first | apply blk_drewN | apply blk_drew | apply blk_alloc)); refine blk_far ?_ NB348_358.out _; (with_reducible repeat (first | apply blk_drewN | apply blk_drew | apply blk_alloc)); refine blk_far ?_ NB348_358.out _; (with_reducible repeat (first | apply blk_drewN | apply blk_drew | apply blk_alloc)); exact BK348.out⟩, ⟨by (with_reducible repeat (first | apply blk_drewN | apply blk_drew | apply blk_alloc)); refine blk_far ?_ NB353_358.out _; (with_reducible repeat (first | apply blk_drewN | apply blk_drew | apply blk_alloc)); refine blk_far ?_ NB353_358.out _; (with_reducible repeat (first | apply blk_drewN | apply blk_drew | apply blk_alloc)); refine blk_far ?_ NB353_358.out _; (with_reducible repeat (first | apply blk_drewN | apply blk_drew | apply blk_alloc)); exact BK353.out⟩, ⟨by (with_reducible repeat (first | apply blk_drewN | apply blk_drew | apply blk_alloc)); refine blk_put (cs := #[.int .i64 t354, .int .i64 t355, .int .i64 0]) ?_ 2 _ rfl; (with_reducible repeat (first | apply blk_drewN | apply blk_drew | apply blk_alloc)); refine blk_put (cs := #[.int .i64 t354, .int .i64 0, .int .i64 0]) ?_ 1 _ rfl; (with_reducible repeat (first | apply blk_drewN | apply blk_drew | apply blk_alloc)); refine blk_put (cs := #[.int .i64 0, .int .i64 0, .int .i64 0]) ?_ 0 _ rfl; (with_reducible repeat (first | apply blk_drewN | apply blk_drew | apply blk_alloc)); exact BK358.out⟩, ⟨by repeat (first | (with_reducible first | exact HB.out | apply below_alloc | apply pw_below_drewN | apply below_drew1 | refine below_set ?_ GE348.out | refine below_set ?_ GE353.out | refine below_set ?_ GE358.out) | exact HB.out)⟩⟩
   case rest =>
    clear HC6
    try clear c1
    try clear c2
    try clear c2b0
    try clear c2b1
    try clear p2
    try clear c3
    try clear c4
    try clear c8
    try clear c11
    try clear c13
    try clear c14
    try clear c18
    try clear c19
    try clear c21
    try clear c21b0
    try clear c22
    try clear c23
    try clear c25
    try clear c27
    try clear c27b0
    try clear c27b1
    try clear c27b2
    try clear c28
    try clear c29
    try clear c31
    try clear c33
    try clear c34
    try clear c36
    try clear hcz14_0
    try clear hcz14_1
    try clear hcz14_2
    try clear hcz15_0
    try clear hcz15_1
    try clear hcz15_2
    try clear hcz20_0
    try clear hcz20_1
    try clear hcz20_2
    try clear hcz24_0
    try clear hcz24_1
    try clear hcz24_2
    try clear hcz26_0
    try clear hcz26_1
    try clear hcz26_2
    try clear hcz30_0
    try clear hcz30_1
    try clear hcz30_2
    try clear hcz32_0
    try clear hcz32_1
    try clear hcz32_2
    try clear hcz35_0
    try clear hcz35_1
    try clear hcz35_2
    try clear hcz37_0
    try clear hcz37_1
    try clear hcz37_2
    try clear hcz9_0
    try clear hcz9_1
    try clear hcz9_2
    try clear hfz14_0
    try clear hfz14_1
    try clear hfz14_2
    try clear hfz15_0
    try clear hfz15_1
    try clear hfz15_2
    try clear hfz20_0
    try clear hfz20_1
    try clear hfz20_2
    try clear hfz24_0
    try clear hfz24_1
    try clear hfz24_2
    try clear hfz26_0
    try clear hfz26_1
    try clear hfz26_2
    try clear hfz30_0
    try clear hfz30_1
    try clear hfz30_2
    try clear hfz32_0
    try clear hfz32_1
    try clear hfz32_2
    try clear hfz35_0
    try clear hfz35_1
    try clear hfz35_2
    try clear hfz37_0
    try clear hfz37_1
    try clear hfz37_2
    try clear hfz9_0
    try clear hfz9_1
    try clear hfz9_2
    obtain ⟨kq, x44_5, rfl, HA, HJ5, HO_4, BK348, BK353, BK358, HB⟩ := hcut
    cases kq with
    | zero => exact absurd HA.out (by simp [laws_FnRunClock.j0])
    | succ kj5 =>
     have H := HA.out
     clear HA
     simp only [laws_FnRunClock.j0] at H
     by_cases c38 : x44_5 = true
     · subst c38
       have H1 : (if (t349 == t354 && (t350 == t355 && (t351 == t356))) = true then (some (t352 == t357)) else (some false)) = some r := by rw [if_pos rfl] at H; exact H
       clear H
       have H := H1
       clear H1
       by_cases c39 : (t349 == t354 && (t350 == t355 && (t351 == t356))) = true
       · rw [if_pos c39] at H
         have c39b0 : (t349 == t354 && (t350 == t355 && (t351 == t356))) = true := c39
         (try (have c39b1 : decide (t349 = t354 && (t350 == t355 && (t351 == t356))) = true := by simpa using c39))
         (try (have c39b2 : (t349 == t354 && (t350 == t355 && (t351 == t356))) = true := by simpa using c39))
         clear c39
         obtain rfl := Option.some.inj H
         have hnb40 := NB353_348.out
         have hnc40 := NB348_353.out
         have hnb41 := NB353_358.out
         have hnc41 := NB358_353.out
         have hcz42_0 : wc.cell? ⟨gb353, 0, none⟩ = some (.int .i64 t349) := (blk_cell BK353.out 0).trans rfl
         have hcz42_1 : wc.cell? ⟨gb353, 1, none⟩ = some (.int .i64 t350) := (blk_cell BK353.out 1).trans rfl
         have hcz42_2 : wc.cell? ⟨gb353, 2, none⟩ = some (.int .i64 t351) := (blk_cell BK353.out 2).trans rfl
         have hfz42_0 := blk_frozen BK353.out 0
         have hfz42_1 := blk_frozen BK353.out 1
         have hfz42_2 := blk_frozen BK353.out 2
         have hnb43 := NB358_348.out
         have hnc43 := NB348_358.out
         have hcz44_0 : wc.cell? ⟨gb358, 0, none⟩ = some (.int .i64 t354) := (blk_cell BK358.out 0).trans rfl
         have hcz44_1 : wc.cell? ⟨gb358, 1, none⟩ = some (.int .i64 t355) := (blk_cell BK358.out 1).trans rfl
         have hcz44_2 : wc.cell? ⟨gb358, 2, none⟩ = some (.int .i64 t356) := (blk_cell BK358.out 2).trans rfl
         have hfz44_0 := blk_frozen BK358.out 0
         have hfz44_1 := blk_frozen BK358.out 1
         have hfz44_2 := blk_frozen BK358.out 2
         go_wp2
         go_ret
         exact ⟨by first | rfl | (simp [errW_none, errW_some] <;> rfl) | (simp [*, errW_none, errW_some] <;> rfl), by repeat (first | (with_reducible first | exact HB.out | apply below_alloc | apply pw_below_drewN | apply below_drew1 | refine below_set ?_ GE348.out | refine below_set ?_ GE353.out | refine below_set ?_ GE358.out) | exact HB.out)⟩
       · rw [if_neg c39] at H
         have c39b0 : (t349 == t354 && (t350 == t355 && (t351 == t356))) = false := by simpa using c39
         (try (have c39b1 : decide (t349 = t354 && (t350 == t355 && (t351 == t356))) = false := by simpa using c39))
         (try (have c39b2 : (t349 == t354 && (t350 == t355 && (t351 == t356))) = false := by simpa using c39))
         (try (have c39b3 : ¬ (t349 = t354 && (t350 == t355 && (t351 == t356))) := by simpa using c39))
         clear c39
         obtain rfl := Option.some.inj H
         have hnb45 := NB353_348.out
         have hnc45 := NB348_353.out
         have hnb46 := NB353_358.out
         have hnc46 := NB358_353.out
         have hcz47_0 : wc.cell? ⟨gb353, 0, none⟩ = some (.int .i64 t349) := (blk_cell BK353.out 0).trans rfl
         have hcz47_1 : wc.cell? ⟨gb353, 1, none⟩ = some (.int .i64 t350) := (blk_cell BK353.out 1).trans rfl
         have hcz47_2 : wc.cell? ⟨gb353, 2, none⟩ = some (.int .i64 t351) := (blk_cell BK353.out 2).trans rfl
         have hfz47_0 := blk_frozen BK353.out 0
         have hfz47_1 := blk_frozen BK353.out 1
         have hfz47_2 := blk_frozen BK353.out 2
         have hnb48 := NB358_348.out
         have hnc48 := NB348_358.out
         have hcz49_0 : wc.cell? ⟨gb358, 0, none⟩ = some (.int .i64 t354) := (blk_cell BK358.out 0).trans rfl
         have hcz49_1 : wc.cell? ⟨gb358, 1, none⟩ = some (.int .i64 t355) := (blk_cell BK358.out 1).trans rfl
         have hcz49_2 : wc.cell? ⟨gb358, 2, none⟩ = some (.int .i64 t356) := (blk_cell BK358.out 2).trans rfl
         have hfz49_0 := blk_frozen BK358.out 0
         have hfz49_1 := blk_frozen BK358.out 1
         have hfz49_2 := blk_frozen BK358.out 2
         go_wp2
         go_ret
         exact ⟨by first | rfl | (simp [errW_none, errW_some] <;> rfl) | (simp [*, errW_none, errW_some] <;> rfl), by repeat (first | (with_reducible first | exact HB.out | apply below_alloc | apply pw_below_drewN | apply below_drew1 | refine below_set ?_ GE348.out | refine below_set ?_ GE353.out | refine below_set ?_ GE358.out) | exact HB.out)⟩
     · replace c38 := Bool.eq_false_iff.mpr c38
       subst c38
       have H1 : (laws_FnRunClock.l0 kj5 t345 0 t349 t350 t351 t342 t343 t344) = some r := by rw [if_neg (show ¬ (false = true) by decide)] at H; exact H
       clear H
       have H := H1
       clear H1
       have H' := Aside0.mk H
       clear H
       have hnb50 := NB348_353.out
       have hnc50 := NB353_348.out
       have hnb51 := NB348_358.out
       have hnc51 := NB358_348.out
       have hcz52_0 : wc.cell? ⟨gb348, 0, none⟩ = some (.int .i64 t342) := (blk_cell BK348.out 0).trans rfl
       have hcz52_1 : wc.cell? ⟨gb348, 1, none⟩ = some (.int .i64 t343) := (blk_cell BK348.out 1).trans rfl
       have hcz52_2 : wc.cell? ⟨gb348, 2, none⟩ = some (.int .i64 t344) := (blk_cell BK348.out 2).trans rfl
       have hfz52_0 := blk_frozen BK348.out 0
       have hfz52_1 := blk_frozen BK348.out 1
       have hfz52_2 := blk_frozen BK348.out 2
       go_wp2_with (first | ((with_reducible refine gate_dst (N := 9) rfl ?_); refine box_event ?hg (N := 9) ?hd (cs := #[.int .i64 0, .int .i64 0, .int .i64 0]) (t := 26) ?hr ?_; (case hd => rfl); (case hg => rfl); (case hr => first | (go_simp; done) | (go_simp; rfl)); intro gb359 hg w53 hbox hb; have n0_ := Aside0.mk (Kd.R_below (by (with_reducible repeat (first | apply Kd.R_alloc | apply Kd.R_drewN | apply Kd.R_drew)); exact HO_4.out) hb); have n1_ := Aside0.mk (blk_below (g := gb348) (o := .cells #[.int .i64 t342, .int .i64 t343, .int .i64 t344] 26 (0, 0)) (by (with_reducible repeat (first | apply blk_drewN | apply blk_drew | apply blk_alloc)); exact BK348.out) hb); have n2_ := Aside0.mk (blk_below (g := gb353) (o := .cells #[.int .i64 t349, .int .i64 t350, .int .i64 t351] 26 (0, 0)) (by (with_reducible repeat (first | apply blk_drewN | apply blk_drew | apply blk_alloc)); exact BK353.out) hb); have n3_ := Aside0.mk (blk_below (g := gb358) (o := .cells #[.int .i64 t354, .int .i64 t355, .int .i64 t356] 26 (0, 0)) (by (with_reducible repeat (first | apply blk_drewN | apply blk_drew | apply blk_alloc)); exact BK358.out) hb); have n4_ := Aside0.mk (below_step (by repeat (first | (with_reducible first | exact HB.out | apply below_alloc | apply pw_below_drewN | apply below_drew1 | refine below_set ?_ GE348.out | refine below_set ?_ GE353.out | refine below_set ?_ GE358.out) | exact HB.out)) hb); have n5_ := Aside0.mk (hbox); have n6_ := Aside0.mk ((by rw [hg]; exact (below_size (by repeat (first | (with_reducible first | exact HB.out | apply below_alloc | apply pw_below_drewN | apply below_drew1 | refine below_set ?_ GE348.out | refine below_set ?_ GE353.out | refine below_set ?_ GE358.out) | exact HB.out))) : w.heap.size ≤ gb359)); have n7_ := Aside0.mk ((by rw [hg]; exact (below_size (by repeat (first | (with_reducible first | exact HB.out | apply below_alloc | apply pw_below_drewN | apply below_drew1 | refine below_set ?_ GE348.out | refine below_set ?_ GE353.out | refine below_set ?_ GE358.out) | exact HB.out))) : w.heap.size ≤ gb359)); have n8_ := Aside0.mk ((by rw [hg]; exact Nat.ne_of_lt (blk_lt (g := gb348) (o := .cells #[.int .i64 t342, .int .i64 t343, .int .i64 t344] 26 (0, 0)) (by (with_reducible repeat (first | apply blk_drewN | apply blk_drew | apply blk_alloc)); exact BK348.out)) : gb348 ≠ gb359)); have n9_ := Aside0.mk ((by rw [hg]; exact Nat.ne_of_gt (blk_lt (g := gb348) (o := .cells #[.int .i64 t342, .int .i64 t343, .int .i64 t344] 26 (0, 0)) (by (with_reducible repeat (first | apply blk_drewN | apply blk_drew | apply blk_alloc)); exact BK348.out)) : gb359 ≠ gb348)); have n10_ := Aside0.mk ((by rw [hg]; exact Nat.ne_of_lt (blk_lt (g := gb353) (o := .cells #[.int .i64 t349, .int .i64 t350, .int .i64 t351] 26 (0, 0)) (by (with_reducible repeat (first | apply blk_drewN | apply blk_drew | apply blk_alloc)); exact BK353.out)) : gb353 ≠ gb359)); have n11_ := Aside0.mk ((by rw [hg]; exact Nat.ne_of_gt (blk_lt (g := gb353) (o := .cells #[.int .i64 t349, .int .i64 t350, .int .i64 t351] 26 (0, 0)) (by (with_reducible repeat (first | apply blk_drewN | apply blk_drew | apply blk_alloc)); exact BK353.out)) : gb359 ≠ gb353)); have n12_ := Aside0.mk ((by rw [hg]; exact Nat.ne_of_lt (blk_lt (g := gb358) (o := .cells #[.int .i64 t354, .int .i64 t355, .int .i64 t356] 26 (0, 0)) (by (with_reducible repeat (first | apply blk_drewN | apply blk_drew | apply blk_alloc)); exact BK358.out)) : gb358 ≠ gb359)); have n13_ := Aside0.mk ((by rw [hg]; exact Nat.ne_of_gt (blk_lt (g := gb358) (o := .cells #[.int .i64 t354, .int .i64 t355, .int .i64 t356] 26 (0, 0)) (by (with_reducible repeat (first | apply blk_drewN | apply blk_drew | apply blk_alloc)); exact BK358.out)) : gb359 ≠ gb358)); clear HO_4; clear BK348; clear BK353; clear BK358; clear HB; have HO_4 := n0_; have BK348 := n1_; have BK353 := n2_; have BK358 := n3_; have HB := n4_; have BK359 := n5_; have GW359 := n6_; have GE359 := n7_; have NB348_359 := n8_; have NB359_348 := n9_; have NB353_359 := n10_; have NB359_353 := n11_; have NB358_359 := n12_; have NB359_358 := n13_; clear n0_ n1_ n2_ n3_ n4_ n5_ n6_ n7_ n8_ n9_ n10_ n11_ n12_ n13_; clear hb hbox hg; have hnb54 := NB359_348.out; have hnc54 := NB348_359.out; have hnb55 := NB359_353.out; have hnc55 := NB353_359.out; have hnb56 := NB359_358.out; have hnc56 := NB358_359.out; have hcz57_0 : w53.cell? ⟨gb359, 0, none⟩ = some (.int .i64 0) := (blk_cell BK359.out 0).trans rfl; have hcz57_1 : w53.cell? ⟨gb359, 1, none⟩ = some (.int .i64 0) := (blk_cell BK359.out 1).trans rfl; have hcz57_2 : w53.cell? ⟨gb359, 2, none⟩ = some (.int .i64 0) := (blk_cell BK359.out 2).trans rfl; have hfz57_0 := blk_frozen BK359.out 0; have hfz57_1 := blk_frozen BK359.out 1; have hfz57_2 := blk_frozen BK359.out 2))
       go_loopg [10] kj5 (fun kq v10 w' => ∃ (x10_2 : Int) (x360000_2 : Int) (x360001_2 : Int) (x360002_2 : Int), v10 = .int .i64 x10_2 ∧ Aside0 (laws_FnRunClock.l0 kq t345 x10_2 t349 t350 t351 x360000_2 x360001_2 x360002_2 = some r) ∧ Aside0 (kq ≤ kj5) ∧ Aside0 (Kd.R k40 40 w' w.heap.size (fun _ => True) (.slice Ao10 t345.length co10) t345) ∧ Aside0 (w'.heap[gb348]? = some (.cells #[.int .i64 t342, .int .i64 t343, .int .i64 t344] 26 (0, 0))) ∧ Aside0 (w'.heap[gb353]? = some (.cells #[.int .i64 t349, .int .i64 t350, .int .i64 t351] 26 (0, 0))) ∧ Aside0 (w'.heap[gb358]? = some (.cells #[.int .i64 t354, .int .i64 t355, .int .i64 t356] 26 (0, 0))) ∧ Aside0 (w'.heap[gb359]? = some (.cells #[.int .i64 x360000_2, .int .i64 x360001_2, .int .i64 x360002_2] 26 (0, 0))) ∧ Aside0 (Below w.heap.size w w'))
       case atStart => exact ⟨(0), (t342), (t343), (t344), (by first | rfl | (simp; done) | (simp [*]; done)), H', ⟨Nat.le_refl _⟩, ⟨by (with_reducible repeat (first | apply Kd.R_alloc | apply Kd.R_drewN | apply Kd.R_drew)); exact Kd.R_mono (Kd.R_far (p := ⟨gb359, 2, none⟩) (Kd.R_far (p := ⟨gb359, 1, none⟩) (Kd.R_far (p := ⟨gb359, 0, none⟩) (Kd.R_types HO_4.out BK359.out (by decide)) (fun _ hk => hk.2) (.int .i64 t342)) (fun _ hk => hk.2) (.int .i64 t343)) (fun _ hk => hk.2) (.int .i64 t344)) (fun _ hk => trivial)⟩, ⟨by (with_reducible repeat (first | apply blk_drewN | apply blk_drew | apply blk_alloc)); refine blk_far ?_ NB348_359.out _; (with_reducible repeat (first | apply blk_drewN | apply blk_drew | apply blk_alloc)); refine blk_far ?_ NB348_359.out _; (with_reducible repeat (first | apply blk_drewN | apply blk_drew | apply blk_alloc)); refine blk_far ?_ NB348_359.out _; (with_reducible repeat (first | apply blk_drewN | apply blk_drew | apply blk_alloc)); exact BK348.out⟩, ⟨by (with_reducible repeat (first | apply blk_drewN | apply blk_drew | apply blk_alloc)); refine blk_far ?_ NB353_359.out _; (with_reducible repeat (first | apply blk_drewN | apply blk_drew | apply blk_alloc)); refine blk_far ?_ NB353_359.out _; (with_reducible repeat (first | apply blk_drewN | apply blk_drew | apply blk_alloc)); refine blk_far ?_ NB353_359.out _; (with_reducible repeat (first | apply blk_drewN | apply blk_drew | apply blk_alloc)); exact BK353.out⟩, ⟨by (with_reducible repeat (first | apply blk_drewN | apply blk_drew | apply blk_alloc)); refine blk_far ?_ NB358_359.out _; (with_reducible repeat (first | apply blk_drewN | apply blk_drew | apply blk_alloc)); refine blk_far ?_ NB358_359.out _; (with_reducible repeat (first | apply blk_drewN | apply blk_drew | apply blk_alloc)); refine blk_far ?_ NB358_359.out _; (with_reducible repeat (first | apply blk_drewN | apply blk_drew | apply blk_alloc)); exact BK358.out⟩, ⟨by (with_reducible repeat (first | apply blk_drewN | apply blk_drew | apply blk_alloc)); refine blk_put (cs := #[.int .i64 t342, .int .i64 t343, .int .i64 0]) ?_ 2 _ rfl; (with_reducible repeat (first | apply blk_drewN | apply blk_drew | apply blk_alloc)); refine blk_put (cs := #[.int .i64 t342, .int .i64 0, .int .i64 0]) ?_ 1 _ rfl; (with_reducible repeat (first | apply blk_drewN | apply blk_drew | apply blk_alloc)); refine blk_put (cs := #[.int .i64 0, .int .i64 0, .int .i64 0]) ?_ 0 _ rfl; (with_reducible repeat (first | apply blk_drewN | apply blk_drew | apply blk_alloc)); exact BK359.out⟩, ⟨by repeat (first | (with_reducible first | exact HB.out | apply below_alloc | apply pw_below_drewN | apply below_drew1 | refine below_set ?_ GE348.out | refine below_set ?_ GE353.out | refine below_set ?_ GE358.out | refine below_set ?_ GE359.out) | exact HB.out)⟩⟩
       case round =>
        clear H'
        try clear c1
        try clear c2
        try clear c2b0
        try clear c2b1
        try clear p2
        try clear c3
        try clear c4
        try clear c5
        try clear c8
        try clear c11
        try clear c13
        try clear c14
        try clear c18
        try clear c19
        try clear c21
        try clear c21b0
        try clear c22
        try clear c23
        try clear c25
        try clear c27
        try clear c27b0
        try clear c27b1
        try clear c27b2
        try clear c28
        try clear c29
        try clear c31
        try clear c33
        try clear c34
        try clear c36
        try clear c38
        try clear c39
        try clear c39b0
        try clear c39b1
        try clear c39b2
        try clear c40
        try clear c41
        try clear c43
        try clear c45
        try clear c46
        try clear c48
        try clear c50
        try clear c51
        try clear c54
        try clear c55
        try clear c56
        try clear hcz14_0
        try clear hcz14_1
        try clear hcz14_2
        try clear hcz15_0
        try clear hcz15_1
        try clear hcz15_2
        try clear hcz20_0
        try clear hcz20_1
        try clear hcz20_2
        try clear hcz24_0
        try clear hcz24_1
        try clear hcz24_2
        try clear hcz26_0
        try clear hcz26_1
        try clear hcz26_2
        try clear hcz30_0
        try clear hcz30_1
        try clear hcz30_2
        try clear hcz32_0
        try clear hcz32_1
        try clear hcz32_2
        try clear hcz35_0
        try clear hcz35_1
        try clear hcz35_2
        try clear hcz37_0
        try clear hcz37_1
        try clear hcz37_2
        try clear hcz42_0
        try clear hcz42_1
        try clear hcz42_2
        try clear hcz44_0
        try clear hcz44_1
        try clear hcz44_2
        try clear hcz47_0
        try clear hcz47_1
        try clear hcz47_2
        try clear hcz49_0
        try clear hcz49_1
        try clear hcz49_2
        try clear hcz52_0
        try clear hcz52_1
        try clear hcz52_2
        try clear hcz57_0
        try clear hcz57_1
        try clear hcz57_2
        try clear hcz9_0
        try clear hcz9_1
        try clear hcz9_2
        try clear hfz14_0
        try clear hfz14_1
        try clear hfz14_2
        try clear hfz15_0
        try clear hfz15_1
        try clear hfz15_2
        try clear hfz20_0
        try clear hfz20_1
        try clear hfz20_2
        try clear hfz24_0
        try clear hfz24_1
        try clear hfz24_2
        try clear hfz26_0
        try clear hfz26_1
        try clear hfz26_2
        try clear hfz30_0
        try clear hfz30_1
        try clear hfz30_2
        try clear hfz32_0
        try clear hfz32_1
        try clear hfz32_2
        try clear hfz35_0
        try clear hfz35_1
        try clear hfz35_2
        try clear hfz37_0
        try clear hfz37_1
        try clear hfz37_2
        try clear hfz42_0
        try clear hfz42_1
        try clear hfz42_2
        try clear hfz44_0
        try clear hfz44_1
        try clear hfz44_2
        try clear hfz47_0
        try clear hfz47_1
        try clear hfz47_2
        try clear hfz49_0
        try clear hfz49_1
        try clear hfz49_2
        try clear hfz52_0
        try clear hfz52_1
        try clear hfz52_2
        try clear hfz57_0
        try clear hfz57_1
        try clear hfz57_2
        try clear hfz9_0
        try clear hfz9_1
        try clear hfz9_2
        try clear p2
        obtain ⟨x10_2, x360000_2, x360001_2, x360002_2, rfl, HA, HK2, HO_4, BK348, BK353, BK358, BK359, HB⟩ := hrel
        cases gk with
        | zero => exact absurd HA.out (by simp [laws_FnRunClock.l0])
        | succ k2 =>
         have H := HA.out
         clear HA
         simp only [laws_FnRunClock.l0] at H
         by_cases c58 : x10_2 < (t345.length : Int)
         · rw [if_pos c58] at H
           have c58b0 : decide (x10_2 < (t345.length : Int)) = true := decide_eq_true c58
           clear c58
           by_cases c59 : 0 ≤ x10_2
           · rw [if_pos c59] at H
             have c59b0 : decide (0 ≤ x10_2) = true := decide_eq_true c59
             clear c59
             replace H := Option.bind_eq_some_iff.mp H
             obtain ⟨⟨t362, t363, t364, t365⟩, A600, H⟩ := H
             replace H : (if t365 = true then (laws_FnRunClock.l0 k2 t345 (wrap64 (x10_2 + 1)) t349 t350 t351 t362 t363 t364) else (some false)) = some r := H
             have A60 := Aside0.mk A600
             clear A600
             by_cases c61 : t365 = true
             · subst c61
               have H1 : (laws_FnRunClock.l0 k2 t345 (wrap64 (x10_2 + 1)) t349 t350 t351 t362 t363 t364) = some r := by rw [if_pos rfl] at H; exact H
               clear H
               have H := H1
               clear H1
               have H' := Aside0.mk H
               clear H
               try go_wp2
               have n0_ := Aside0.mk (Kd.R_drew HO_4.out)
               have n1_ := Aside0.mk (blk_drew BK348.out)
               have n2_ := Aside0.mk (blk_drew BK353.out)
               have n3_ := Aside0.mk (blk_drew BK358.out)
               have n4_ := Aside0.mk (blk_drew BK359.out)
               have n5_ := Aside0.mk (below_drew1 HB.out)
               clear HO_4
               clear BK348
               clear BK353
               clear BK358
               clear BK359
               clear HB
               have HO_4 := n0_
               have BK348 := n1_
               have BK353 := n2_
               have BK358 := n3_
               have BK359 := n4_
               have HB := n5_
               clear n0_ n1_ n2_ n3_ n4_ n5_
               have p360 : 0 ≤ (x10_2 : Int) := of_decide_eq_true (by first | (with_reducible assumption) | assumption)
               have q360 : x10_2 < (t345.length : Int) := of_decide_eq_true (by first | (with_reducible assumption) | assumption)
               obtain ⟨ad360, e360, hx360_0, hx360_1, hx360_2⟩ := at_T40 (Kd.R_reads' HO_4.out).2.2 x10_2 p360 q360
               cases e360
               replace p360 := eq_true p360
               replace q360 := eq_true q360
               have p361 : 0 ≤ (x10_2 : Int) := of_decide_eq_true (by first | (with_reducible assumption) | assumption)
               have q361 : x10_2 < (t345.length : Int) := of_decide_eq_true (by first | (with_reducible assumption) | assumption)
               obtain ⟨ad361, e361, hx361_0, hx361_1, hx361_2⟩ := at_T40 (Kd.R_reads' HO_4.out).2.2 x10_2 p361 q361
               obtain rfl : ad360 = ad361 := (by injection e361)
               replace p361 := eq_true p361
               replace q361 := eq_true q361
               refine start_ (n := 18) (S := fun w' => w'.cell? ⟨gb359, 0, none⟩ = some (.int .i64 x360000_2) ∧ w'.cell? ⟨gb359, 1, none⟩ = some (.int .i64 x360001_2) ∧ w'.cell? ⟨gb359, 2, none⟩ = some (.int .i64 x360002_2) ∧ w'.cell? (ad360.add ((x10_2).toNat * 3)) = some (.int .i64 ((rd_T40 t345 x10_2).f0)) ∧ w'.cell? ⟨(ad360.add ((x10_2).toNat * 3)).block, (ad360.add ((x10_2).toNat * 3)).off + 1, none⟩ = some (.int .i64 ((rd_T40 t345 x10_2).f1)) ∧ w'.cell? ⟨(ad360.add ((x10_2).toNat * 3)).block, (ad360.add ((x10_2).toNat * 3)).off + 2, none⟩ = some (.int .i64 ((rd_T40 t345 x10_2).f2)) ∧ w'.cell? (ad360.add ((x10_2).toNat * 3)) = some (.int .i64 ((rd_T40 t345 x10_2).f0)) ∧ w'.cell? ⟨(ad360.add ((x10_2).toNat * 3)).block, (ad360.add ((x10_2).toNat * 3)).off + 1, none⟩ = some (.int .i64 ((rd_T40 t345 x10_2).f1)) ∧ w'.cell? ⟨(ad360.add ((x10_2).toNat * 3)).block, (ad360.add ((x10_2).toNat * 3)).off + 2, none⟩ = some (.int .i64 ((rd_T40 t345 x10_2).f2))) (ds := []) #[false, false, false, false, false, false, false, false, false, false, false, false, false, false, false, false, false, false] (by kernel_rfl) rfl rfl ⟨(blk_cell BK359.out 0).trans rfl, (blk_cell BK359.out 1).trans rfl, (blk_cell BK359.out 2).trans rfl, hx360_0, hx360_1, hx360_2, hx361_0, hx361_1, hx361_2⟩ (fun hHeld => ?_); refine with_tabW laws_FnRunClock.tab12 laws_FnRunClock.bits12 (fun HT_ HW_ => ?_)
               generalize wr.drew = w62 at HO_4 BK348 BK353 BK358 BK359 HB hx360_0 hx360_1 hx360_2 hx361_0 hx361_1 hx361_2 hHeld ⊢
               refine pure_ (i := 1) (N := some 62) (v := ?_) (a' := ?_) #[false, true, false, false, false, false, false, false, false, false, false, false, false, false, false, false, false, false] rfl rfl (any_of HT_.out (by kernel_rfl)) (fun _ _ _ h => h) (Or.inl ⟨by rfl, ?_⟩) ?_ ?_
               rotate_left
               · intro w'
                 go_simp
                 with_reducible rfl
               rotate_left
               · simp only [Act.put, List.setIfInBounds_toArray, List.set_cons_zero, List.set_cons_succ, i64_w, i32_w]
                 rfl
               refine pure_ (i := 2) (N := some 63) (v := ?_) (a' := ?_) #[false, true, true, false, false, false, false, false, false, false, false, false, false, false, false, false, false, false] rfl rfl (any_of HT_.out (by kernel_rfl)) (fun _ _ _ h => h) (Or.inl ⟨by rfl, ?_⟩) ?_ ?_
               rotate_left
               · intro w'
                 go_simp
                 with_reducible rfl
               rotate_left
               · simp only [Act.put, List.setIfInBounds_toArray, List.set_cons_zero, List.set_cons_succ, i64_w, i32_w]
                 rfl
               refine pure_ (i := 3) (N := some 64) (v := ?_) (a' := ?_) #[false, true, true, true, false, false, false, false, false, false, false, false, false, false, false, false, false, false] rfl rfl (any_of HT_.out (by kernel_rfl)) (fun _ _ _ h => h) (Or.inl ⟨by rfl, ?_⟩) ?_ ?_
               rotate_left
               · intro w'
                 go_simp
                 with_reducible rfl
               rotate_left
               · simp only [Act.put, List.setIfInBounds_toArray, List.set_cons_zero, List.set_cons_succ, i64_w, i32_w]
                 rfl
               refine pure_ (i := 4) (N := some 65) (v := ?_) (a' := ?_) #[false, true, true, true, true, false, false, false, false, false, false, false, false, false, false, false, false, false] rfl rfl (any_of HT_.out (by kernel_rfl)) (fun _ _ _ h => h) (Or.inl ⟨by rfl, ?_⟩) ?_ ?_
               rotate_left
               · intro w'
                 go_simp
                 with_reducible rfl
               rotate_left
               · simp only [Act.put, List.setIfInBounds_toArray, List.set_cons_zero, List.set_cons_succ, i64_w, i32_w]
                 rfl
               refine pure_ (i := 6) (N := some 67) (v := ?_) (a' := ?_) #[false, true, true, true, true, false, true, false, false, false, false, false, false, false, false, false, false, false] rfl rfl (any_of HT_.out (by kernel_rfl)) (fun _ _ _ h => h) (Or.inl ⟨by rfl, ?_⟩) ?_ ?_
               rotate_left
               · intro w'
                 go_simp
                 with_reducible rfl
               rotate_left
               · simp only [Act.put, List.setIfInBounds_toArray, List.set_cons_zero, List.set_cons_succ, i64_w, i32_w]
                 rfl
               refine pure_ (i := 7) (N := some 68) (v := ?_) (a' := ?_) #[false, true, true, true, true, false, true, true, false, false, false, false, false, false, false, false, false, false] rfl rfl (any_of HT_.out (by kernel_rfl)) (fun _ _ _ h => h) (Or.inl ⟨by rfl, ?_⟩) ?_ ?_
               rotate_left
               · intro w'
                 go_simp
                 with_reducible rfl
               rotate_left
               · simp only [Act.put, List.setIfInBounds_toArray, List.set_cons_zero, List.set_cons_succ, i64_w, i32_w]
                 rfl
               refine pure_ (i := 8) (N := some 69) (v := ?_) (a' := ?_) #[false, true, true, true, true, false, true, true, true, false, false, false, false, false, false, false, false, false] rfl rfl (any_of HT_.out (by kernel_rfl)) (fun _ _ _ h => h) (Or.inl ⟨by rfl, ?_⟩) ?_ ?_
               rotate_left
               · intro w'
                 go_simp
                 with_reducible rfl
               rotate_left
               · simp only [Act.put, List.setIfInBounds_toArray, List.set_cons_zero, List.set_cons_succ, i64_w, i32_w]
                 rfl
               refine pure_ (i := 9) (N := some 70) (v := ?_) (a' := ?_) #[false, true, true, true, true, false, true, true, true, true, false, false, false, false, false, false, false, false] rfl rfl (any_of HT_.out (by kernel_rfl)) (fun _ _ _ h => h) (Or.inl ⟨by rfl, ?_⟩) ?_ ?_
               rotate_left
               · intro w'
                 go_simp
                 with_reducible rfl
               rotate_left
               · simp only [Act.put, List.setIfInBounds_toArray, List.set_cons_zero, List.set_cons_succ, i64_w, i32_w]
                 rfl
               refine take_ (i := 0) (N := some 61) (v := ?_) (a' := ?_) #[true, true, true, true, true, false, true, true, true, true, false, false, false, false, false, false, false, false] rfl rfl (take_ofW HT_.out HW_.out (by kernel_rfl)) (fun _ _ _ h => h) (Or.inl ⟨by rfl, ?_⟩) hHeld ?_ ?_
               rotate_left
               · rintro w' ⟨s0, s1, s2, s3, s4, s5, s6, s7, s8⟩
                 go_simp
                 with_reducible rfl
               rotate_left
               · simp only [Act.put, List.setIfInBounds_toArray, List.set_cons_zero, List.set_cons_succ, i64_w, i32_w]
                 rfl
               refine take_ (i := 5) (N := some 66) (v := ?_) (a' := ?_) #[true, true, true, true, true, true, true, true, true, true, false, false, false, false, false, false, false, false] rfl rfl (take_ofW HT_.out HW_.out (by kernel_rfl)) (fun _ _ _ h => h) (Or.inl ⟨by rfl, ?_⟩) hHeld ?_ ?_
               rotate_left
               · rintro w' ⟨s0, s1, s2, s3, s4, s5, s6, s7, s8⟩
                 go_simp
                 with_reducible rfl
               rotate_left
               · simp only [Act.put, List.setIfInBounds_toArray, List.set_cons_zero, List.set_cons_succ, i64_w, i32_w]
                 rfl
               refine take_ (i := 10) (N := some 71) (v := ?_) (a' := ?_) #[true, true, true, true, true, true, true, true, true, true, true, false, false, false, false, false, false, false] rfl rfl (take_ofW HT_.out HW_.out (by kernel_rfl)) (fun _ _ _ h => h) (Or.inl ⟨by rfl, ?_⟩) hHeld ?_ ?_
               rotate_left
               · rintro w' ⟨s0, s1, s2, s3, s4, s5, s6, s7, s8⟩
                 go_simp
                 with_reducible rfl
               rotate_left
               · simp only [Act.put, List.setIfInBounds_toArray, List.set_cons_zero, List.set_cons_succ, i64_w, i32_w]
                 rfl
               refine join_ (σ := Nat) 2 #[true, true, true, true, true, true, true, true, true, true, true, true, true, true, true, true, false, false] (fun s_ => [(72, .tuple #[.agg #[.int .i64 t362, .int .i64 t363, .int .i64 t364], .bool true]), (11, .pointer (some ⟨s_, 0, none⟩)), (60, .tuple #[.agg #[.int .i64 t362, .int .i64 t363, .int .i64 t364], .bool true]), (73, .agg #[.int .i64 t362, .int .i64 t363, .int .i64 t364]), (74, .bool true)]) (fun s_ w' => (w'.cell? ⟨gb359, 0, none⟩ = some (.int .i64 x360000_2) ∧ w'.cell? ⟨gb359, 1, none⟩ = some (.int .i64 x360001_2) ∧ w'.cell? ⟨gb359, 2, none⟩ = some (.int .i64 x360002_2) ∧ w'.cell? (ad360.add ((x10_2).toNat * 3)) = some (.int .i64 ((rd_T40 t345 x10_2).f0)) ∧ w'.cell? ⟨(ad360.add ((x10_2).toNat * 3)).block, (ad360.add ((x10_2).toNat * 3)).off + 1, none⟩ = some (.int .i64 ((rd_T40 t345 x10_2).f1)) ∧ w'.cell? ⟨(ad360.add ((x10_2).toNat * 3)).block, (ad360.add ((x10_2).toNat * 3)).off + 2, none⟩ = some (.int .i64 ((rd_T40 t345 x10_2).f2)) ∧ w'.cell? (ad360.add ((x10_2).toNat * 3)) = some (.int .i64 ((rd_T40 t345 x10_2).f0)) ∧ w'.cell? ⟨(ad360.add ((x10_2).toNat * 3)).block, (ad360.add ((x10_2).toNat * 3)).off + 1, none⟩ = some (.int .i64 ((rd_T40 t345 x10_2).f1)) ∧ w'.cell? ⟨(ad360.add ((x10_2).toNat * 3)).block, (ad360.add ((x10_2).toNat * 3)).off + 2, none⟩ = some (.int .i64 ((rd_T40 t345 x10_2).f2))) ∧ (Kd.R k40 40 w' w.heap.size (fun _ => True) (.slice (some ad360) t345.length co10) t345) ∧ (w'.heap[gb348]? = some (.cells #[.int .i64 t342, .int .i64 t343, .int .i64 t344] 26 (0, 0))) ∧ (w'.heap[gb353]? = some (.cells #[.int .i64 t349, .int .i64 t350, .int .i64 t351] 26 (0, 0))) ∧ (w'.heap[gb358]? = some (.cells #[.int .i64 t354, .int .i64 t355, .int .i64 t356] 26 (0, 0))) ∧ (w'.heap[gb359]? = some (.cells #[.int .i64 x360000_2, .int .i64 x360001_2, .int .i64 x360002_2] 26 (0, 0))) ∧ (w'.heap[s_]? = some (.cells #[.int .i64 0, .int .i64 0, .int .i64 0] 26 (0, 0))) ∧ (w.heap.size ≤ s_) ∧ (w.heap.size ≤ s_) ∧ (gb348 ≠ s_) ∧ (s_ ≠ gb348) ∧ (gb353 ≠ s_) ∧ (s_ ≠ gb353) ∧ (gb358 ≠ s_) ∧ (s_ ≠ gb358) ∧ (gb359 ≠ s_) ∧ (s_ ≠ gb359) ∧ (Below w.heap.size w w')) ?_ ?_
               rotate_left
               · intro hCont
                 refine two_ (i := 11) (j := 15) (Ni := some 72) (Nj := some 11) #[true, true, true, true, true, true, true, true, true, true, true, true, false, false, false, false, false, false] #[true, true, true, true, true, true, true, true, true, true, true, false, false, false, false, true, false, false] rfl rfl rfl rfl (two_of HT_.out (by kernel_rfl)) (by decide) (by decide) (fun K hK => ?_) (fun K hK => ?_)
                 · skip
                   refine goes_ Try.func15 (by kernel_rfl) rfl #[.agg #[.int .i64 x360000_2, .int .i64 x360001_2, .int .i64 x360002_2], .int .i64 ((rd_T40 t345 x10_2).f2), .int .i64 ((rd_T40 t345 x10_2).f0)] (by rfl) rfl rfl (by (try simp only [List.map_toArray, List.map_cons, List.map_nil]); first | done | rfl | (simp only [List.length_drop, List.length_take]; rfl)) ?_
                   with_reducible refine (impl_StepClock.calls k2 x360000_2 x360001_2 x360002_2 ((rd_T40 t345 x10_2).f2) ((rd_T40 t345 x10_2).f0) t362 t363 t364 true _ A60.out).mono ?_
                   rintro e w63 ⟨rfl, hb⟩
                   have HS3_ := (hb.cell (World.block_lt_of_cell? _ _ (hHeld.2.2.2.1))).trans (hHeld.2.2.2.1)
                   have HS4_ := (hb.cell (World.block_lt_of_cell? _ _ (hHeld.2.2.2.2.1))).trans (hHeld.2.2.2.2.1)
                   have HS5_ := (hb.cell (World.block_lt_of_cell? _ _ (hHeld.2.2.2.2.2.1))).trans (hHeld.2.2.2.2.2.1)
                   have HS6_ := (hb.cell (World.block_lt_of_cell? _ _ (hHeld.2.2.2.2.2.2.1))).trans (hHeld.2.2.2.2.2.2.1)
                   have HS7_ := (hb.cell (World.block_lt_of_cell? _ _ (hHeld.2.2.2.2.2.2.2.1))).trans (hHeld.2.2.2.2.2.2.2.1)
                   have HS8_ := (hb.cell (World.block_lt_of_cell? _ _ (hHeld.2.2.2.2.2.2.2.2))).trans (hHeld.2.2.2.2.2.2.2.2)
                   refine ⟨_, rfl, ?_⟩
                   have n0_ := Aside0.mk (Kd.R_below (by (with_reducible repeat (first | apply Kd.R_alloc | apply Kd.R_drewN | apply Kd.R_drew)); exact HO_4.out) hb)
                   have n1_ := Aside0.mk (blk_below (g := gb348) (o := .cells #[.int .i64 t342, .int .i64 t343, .int .i64 t344] 26 (0, 0)) (by (with_reducible repeat (first | apply blk_drewN | apply blk_drew | apply blk_alloc)); exact BK348.out) hb)
                   have n2_ := Aside0.mk (blk_below (g := gb353) (o := .cells #[.int .i64 t349, .int .i64 t350, .int .i64 t351] 26 (0, 0)) (by (with_reducible repeat (first | apply blk_drewN | apply blk_drew | apply blk_alloc)); exact BK353.out) hb)
                   have n3_ := Aside0.mk (blk_below (g := gb358) (o := .cells #[.int .i64 t354, .int .i64 t355, .int .i64 t356] 26 (0, 0)) (by (with_reducible repeat (first | apply blk_drewN | apply blk_drew | apply blk_alloc)); exact BK358.out) hb)
                   have n4_ := Aside0.mk (blk_below (g := gb359) (o := .cells #[.int .i64 x360000_2, .int .i64 x360001_2, .int .i64 x360002_2] 26 (0, 0)) (by (with_reducible repeat (first | apply blk_drewN | apply blk_drew | apply blk_alloc)); exact BK359.out) hb)
                   have n5_ := Aside0.mk (below_step (by repeat (first | (with_reducible first | exact HB.out | apply below_alloc | apply pw_below_drewN | apply below_drew1 | refine below_set ?_ GE348.out | refine below_set ?_ GE353.out | refine below_set ?_ GE358.out | refine below_set ?_ GE359.out) | exact HB.out)) hb)
                   clear HO_4
                   clear BK348
                   clear BK353
                   clear BK358
                   clear BK359
                   clear HB
                   have HO_4 := n0_
                   have BK348 := n1_
                   have BK353 := n2_
                   have BK358 := n3_
                   have BK359 := n4_
                   have HB := n5_
                   clear n0_ n1_ n2_ n3_ n4_ n5_
                   (try clear hb)
                   (try clear hb2)
                   (try clear hk)
                   (try clear hi)
                   refine hK.out _ _ ⟨(blk_cell BK359.out 0).trans rfl, (blk_cell BK359.out 1).trans rfl, (blk_cell BK359.out 2).trans rfl, HS3_, HS4_, HS5_, HS6_, HS7_, HS8_⟩ (fun hHeld => ?_)
                   clear hK K
                   refine norm_ (a' := ?_) ?_ ?_
                   rotate_left
                   · show Act.put _ (some 72) _ = _
                     simp only [Act.put, List.setIfInBounds_toArray, List.set_cons_zero, List.set_cons_succ, i64_w, i32_w]
                     rfl
                   refine pure_ (i := 12) (N := some 60) (v := ?_) (a' := ?_) #[true, true, true, true, true, true, true, true, true, true, true, true, true, false, false, false, false, false] rfl rfl (any_of HT_.out (by kernel_rfl)) (fun _ _ _ h => h) (Or.inl ⟨by rfl, ?_⟩) ?_ ?_
                   rotate_left
                   · intro w'
                     go_simp
                     with_reducible rfl
                   rotate_left
                   · simp only [Act.put, List.setIfInBounds_toArray, List.set_cons_zero, List.set_cons_succ, i64_w, i32_w]
                     rfl
                   refine pure_ (i := 13) (N := some 73) (v := ?_) (a' := ?_) #[true, true, true, true, true, true, true, true, true, true, true, true, true, true, false, false, false, false] rfl rfl (any_of HT_.out (by kernel_rfl)) (fun _ _ _ h => h) (Or.inl ⟨by rfl, ?_⟩) ?_ ?_
                   rotate_left
                   · intro w'
                     go_simp
                     with_reducible rfl
                   rotate_left
                   · simp only [Act.put, List.setIfInBounds_toArray, List.set_cons_zero, List.set_cons_succ, i64_w, i32_w]
                     rfl
                   refine pure_ (i := 14) (N := some 74) (v := ?_) (a' := ?_) #[true, true, true, true, true, true, true, true, true, true, true, true, true, true, true, false, false, false] rfl rfl (any_of HT_.out (by kernel_rfl)) (fun _ _ _ h => h) (Or.inl ⟨by rfl, ?_⟩) ?_ ?_
                   rotate_left
                   · intro w'
                     go_simp
                     with_reducible rfl
                   rotate_left
                   · simp only [Act.put, List.setIfInBounds_toArray, List.set_cons_zero, List.set_cons_succ, i64_w, i32_w]
                     rfl
                   refine one_ (i := 15) (N := some 11) #[true, true, true, true, true, true, true, true, true, true, true, true, true, true, true, true, false, false] rfl rfl (one_of HT_.out (by kernel_rfl)) (by decide) (fun K hK => ?_)
                   refine box_step ?hg (N := 11) ?hd (cs := #[.int .i64 0, .int .i64 0, .int .i64 0]) (t := 26) ?hr ?_; (case hd => rfl); (case hg => rfl); (case hr => first | (go_simp; done) | (go_simp; rfl))
                   intro gb366 hg w64 hbox hb
                   have HS3_ := (hb.cell (World.block_lt_of_cell? _ _ (hHeld.2.2.2.1))).trans (hHeld.2.2.2.1)
                   have HS4_ := (hb.cell (World.block_lt_of_cell? _ _ (hHeld.2.2.2.2.1))).trans (hHeld.2.2.2.2.1)
                   have HS5_ := (hb.cell (World.block_lt_of_cell? _ _ (hHeld.2.2.2.2.2.1))).trans (hHeld.2.2.2.2.2.1)
                   have HS6_ := (hb.cell (World.block_lt_of_cell? _ _ (hHeld.2.2.2.2.2.2.1))).trans (hHeld.2.2.2.2.2.2.1)
                   have HS7_ := (hb.cell (World.block_lt_of_cell? _ _ (hHeld.2.2.2.2.2.2.2.1))).trans (hHeld.2.2.2.2.2.2.2.1)
                   have HS8_ := (hb.cell (World.block_lt_of_cell? _ _ (hHeld.2.2.2.2.2.2.2.2))).trans (hHeld.2.2.2.2.2.2.2.2)
                   have n0_ := Aside0.mk (Kd.R_below (by (with_reducible repeat (first | apply Kd.R_alloc | apply Kd.R_drewN | apply Kd.R_drew)); exact HO_4.out) hb)
                   have n1_ := Aside0.mk (blk_below (g := gb348) (o := .cells #[.int .i64 t342, .int .i64 t343, .int .i64 t344] 26 (0, 0)) (by (with_reducible repeat (first | apply blk_drewN | apply blk_drew | apply blk_alloc)); exact BK348.out) hb)
                   have n2_ := Aside0.mk (blk_below (g := gb353) (o := .cells #[.int .i64 t349, .int .i64 t350, .int .i64 t351] 26 (0, 0)) (by (with_reducible repeat (first | apply blk_drewN | apply blk_drew | apply blk_alloc)); exact BK353.out) hb)
                   have n3_ := Aside0.mk (blk_below (g := gb358) (o := .cells #[.int .i64 t354, .int .i64 t355, .int .i64 t356] 26 (0, 0)) (by (with_reducible repeat (first | apply blk_drewN | apply blk_drew | apply blk_alloc)); exact BK358.out) hb)
                   have n4_ := Aside0.mk (blk_below (g := gb359) (o := .cells #[.int .i64 x360000_2, .int .i64 x360001_2, .int .i64 x360002_2] 26 (0, 0)) (by (with_reducible repeat (first | apply blk_drewN | apply blk_drew | apply blk_alloc)); exact BK359.out) hb)
                   have n5_ := Aside0.mk (below_step (by repeat (first | (with_reducible first | exact HB.out | apply below_alloc | apply pw_below_drewN | apply below_drew1 | refine below_set ?_ GE348.out | refine below_set ?_ GE353.out | refine below_set ?_ GE358.out | refine below_set ?_ GE359.out) | exact HB.out)) hb)
                   have n6_ := Aside0.mk (hbox)
                   have n7_ := Aside0.mk ((by rw [hg]; exact (below_size (by repeat (first | (with_reducible first | exact HB.out | apply below_alloc | apply pw_below_drewN | apply below_drew1 | refine below_set ?_ GE348.out | refine below_set ?_ GE353.out | refine below_set ?_ GE358.out | refine below_set ?_ GE359.out) | exact HB.out))) : w.heap.size ≤ gb366))
                   have n8_ := Aside0.mk ((by rw [hg]; exact (below_size (by repeat (first | (with_reducible first | exact HB.out | apply below_alloc | apply pw_below_drewN | apply below_drew1 | refine below_set ?_ GE348.out | refine below_set ?_ GE353.out | refine below_set ?_ GE358.out | refine below_set ?_ GE359.out) | exact HB.out))) : w.heap.size ≤ gb366))
                   have n9_ := Aside0.mk ((by rw [hg]; exact Nat.ne_of_lt (blk_lt (g := gb348) (o := .cells #[.int .i64 t342, .int .i64 t343, .int .i64 t344] 26 (0, 0)) (by (with_reducible repeat (first | apply blk_drewN | apply blk_drew | apply blk_alloc)); exact BK348.out)) : gb348 ≠ gb366))
                   have n10_ := Aside0.mk ((by rw [hg]; exact Nat.ne_of_gt (blk_lt (g := gb348) (o := .cells #[.int .i64 t342, .int .i64 t343, .int .i64 t344] 26 (0, 0)) (by (with_reducible repeat (first | apply blk_drewN | apply blk_drew | apply blk_alloc)); exact BK348.out)) : gb366 ≠ gb348))
                   have n11_ := Aside0.mk ((by rw [hg]; exact Nat.ne_of_lt (blk_lt (g := gb353) (o := .cells #[.int .i64 t349, .int .i64 t350, .int .i64 t351] 26 (0, 0)) (by (with_reducible repeat (first | apply blk_drewN | apply blk_drew | apply blk_alloc)); exact BK353.out)) : gb353 ≠ gb366))
                   have n12_ := Aside0.mk ((by rw [hg]; exact Nat.ne_of_gt (blk_lt (g := gb353) (o := .cells #[.int .i64 t349, .int .i64 t350, .int .i64 t351] 26 (0, 0)) (by (with_reducible repeat (first | apply blk_drewN | apply blk_drew | apply blk_alloc)); exact BK353.out)) : gb366 ≠ gb353))
                   have n13_ := Aside0.mk ((by rw [hg]; exact Nat.ne_of_lt (blk_lt (g := gb358) (o := .cells #[.int .i64 t354, .int .i64 t355, .int .i64 t356] 26 (0, 0)) (by (with_reducible repeat (first | apply blk_drewN | apply blk_drew | apply blk_alloc)); exact BK358.out)) : gb358 ≠ gb366))
                   have n14_ := Aside0.mk ((by rw [hg]; exact Nat.ne_of_gt (blk_lt (g := gb358) (o := .cells #[.int .i64 t354, .int .i64 t355, .int .i64 t356] 26 (0, 0)) (by (with_reducible repeat (first | apply blk_drewN | apply blk_drew | apply blk_alloc)); exact BK358.out)) : gb366 ≠ gb358))
                   have n15_ := Aside0.mk ((by rw [hg]; exact Nat.ne_of_lt (blk_lt (g := gb359) (o := .cells #[.int .i64 x360000_2, .int .i64 x360001_2, .int .i64 x360002_2] 26 (0, 0)) (by (with_reducible repeat (first | apply blk_drewN | apply blk_drew | apply blk_alloc)); exact BK359.out)) : gb359 ≠ gb366))
                   have n16_ := Aside0.mk ((by rw [hg]; exact Nat.ne_of_gt (blk_lt (g := gb359) (o := .cells #[.int .i64 x360000_2, .int .i64 x360001_2, .int .i64 x360002_2] 26 (0, 0)) (by (with_reducible repeat (first | apply blk_drewN | apply blk_drew | apply blk_alloc)); exact BK359.out)) : gb366 ≠ gb359))
                   clear HO_4
                   clear BK348
                   clear BK353
                   clear BK358
                   clear BK359
                   clear HB
                   have HO_4 := n0_
                   have BK348 := n1_
                   have BK353 := n2_
                   have BK358 := n3_
                   have BK359 := n4_
                   have HB := n5_
                   have BK366 := n6_
                   have GW366 := n7_
                   have GE366 := n8_
                   have NB348_366 := n9_
                   have NB366_348 := n10_
                   have NB353_366 := n11_
                   have NB366_353 := n12_
                   have NB358_366 := n13_
                   have NB366_358 := n14_
                   have NB359_366 := n15_
                   have NB366_359 := n16_
                   clear n0_ n1_ n2_ n3_ n4_ n5_ n6_ n7_ n8_ n9_ n10_ n11_ n12_ n13_ n14_ n15_ n16_
                   clear hb hbox hg
                   refine hK.out _ _ ⟨(blk_cell BK359.out 0).trans rfl, (blk_cell BK359.out 1).trans rfl, (blk_cell BK359.out 2).trans rfl, HS3_, HS4_, HS5_, HS6_, HS7_, HS8_⟩ (fun hHeld => ?_)
                   clear hK K
                   refine norm_ (a' := ?_) ?_ ?_
                   rotate_left
                   · show Act.put _ (some 11) _ = _
                     simp only [Act.put, List.setIfInBounds_toArray, List.set_cons_zero, List.set_cons_succ, i64_w, i32_w]
                     rfl
                   exact norm_ (by simp only [putAll, Act.put, List.setIfInBounds_toArray, List.set_cons_zero, List.set_cons_succ]) (hCont (gb366) _ ⟨hHeld, (by (with_reducible repeat (first | apply Kd.R_alloc | apply Kd.R_drewN | apply Kd.R_drew)); exact HO_4.out), (by (with_reducible repeat (first | apply blk_drewN | apply blk_drew | apply blk_alloc)); exact BK348.out), (by (with_reducible repeat (first | apply blk_drewN | apply blk_drew | apply blk_alloc)); exact BK353.out), (by (with_reducible repeat (first | apply blk_drewN | apply blk_drew | apply blk_alloc)); exact BK358.out), (by (with_reducible repeat (first | apply blk_drewN | apply blk_drew | apply blk_alloc)); exact BK359.out), (by (with_reducible repeat (first | apply blk_drewN | apply blk_drew | apply blk_alloc)); exact BK366.out), GW366.out, GE366.out, NB348_366.out, NB366_348.out, NB353_366.out, NB366_353.out, NB358_366.out, NB366_358.out, NB359_366.out, NB366_359.out, (by repeat (first | (with_reducible first | exact HB.out | apply below_alloc | apply pw_below_drewN | apply below_drew1 | refine below_set ?_ GE348.out | refine below_set ?_ GE353.out | refine below_set ?_ GE358.out | refine below_set ?_ GE359.out | refine below_set ?_ GE366.out) | exact HB.out))⟩)
                 · skip
                   refine box_step ?hg (N := 11) ?hd (cs := #[.int .i64 0, .int .i64 0, .int .i64 0]) (t := 26) ?hr ?_; (case hd => rfl); (case hg => rfl); (case hr => first | (go_simp; done) | (go_simp; rfl))
                   intro gb366 hg w63 hbox hb
                   have HS3_ := (hb.cell (World.block_lt_of_cell? _ _ (hHeld.2.2.2.1))).trans (hHeld.2.2.2.1)
                   have HS4_ := (hb.cell (World.block_lt_of_cell? _ _ (hHeld.2.2.2.2.1))).trans (hHeld.2.2.2.2.1)
                   have HS5_ := (hb.cell (World.block_lt_of_cell? _ _ (hHeld.2.2.2.2.2.1))).trans (hHeld.2.2.2.2.2.1)
                   have HS6_ := (hb.cell (World.block_lt_of_cell? _ _ (hHeld.2.2.2.2.2.2.1))).trans (hHeld.2.2.2.2.2.2.1)
                   have HS7_ := (hb.cell (World.block_lt_of_cell? _ _ (hHeld.2.2.2.2.2.2.2.1))).trans (hHeld.2.2.2.2.2.2.2.1)
                   have HS8_ := (hb.cell (World.block_lt_of_cell? _ _ (hHeld.2.2.2.2.2.2.2.2))).trans (hHeld.2.2.2.2.2.2.2.2)
                   have n0_ := Aside0.mk (Kd.R_below (by (with_reducible repeat (first | apply Kd.R_alloc | apply Kd.R_drewN | apply Kd.R_drew)); exact HO_4.out) hb)
                   have n1_ := Aside0.mk (blk_below (g := gb348) (o := .cells #[.int .i64 t342, .int .i64 t343, .int .i64 t344] 26 (0, 0)) (by (with_reducible repeat (first | apply blk_drewN | apply blk_drew | apply blk_alloc)); exact BK348.out) hb)
                   have n2_ := Aside0.mk (blk_below (g := gb353) (o := .cells #[.int .i64 t349, .int .i64 t350, .int .i64 t351] 26 (0, 0)) (by (with_reducible repeat (first | apply blk_drewN | apply blk_drew | apply blk_alloc)); exact BK353.out) hb)
                   have n3_ := Aside0.mk (blk_below (g := gb358) (o := .cells #[.int .i64 t354, .int .i64 t355, .int .i64 t356] 26 (0, 0)) (by (with_reducible repeat (first | apply blk_drewN | apply blk_drew | apply blk_alloc)); exact BK358.out) hb)
                   have n4_ := Aside0.mk (blk_below (g := gb359) (o := .cells #[.int .i64 x360000_2, .int .i64 x360001_2, .int .i64 x360002_2] 26 (0, 0)) (by (with_reducible repeat (first | apply blk_drewN | apply blk_drew | apply blk_alloc)); exact BK359.out) hb)
                   have n5_ := Aside0.mk (below_step (by repeat (first | (with_reducible first | exact HB.out | apply below_alloc | apply pw_below_drewN | apply below_drew1 | refine below_set ?_ GE348.out | refine below_set ?_ GE353.out | refine below_set ?_ GE358.out | refine below_set ?_ GE359.out) | exact HB.out)) hb)
                   have n6_ := Aside0.mk (hbox)
                   have n7_ := Aside0.mk ((by rw [hg]; exact (below_size (by repeat (first | (with_reducible first | exact HB.out | apply below_alloc | apply pw_below_drewN | apply below_drew1 | refine below_set ?_ GE348.out | refine below_set ?_ GE353.out | refine below_set ?_ GE358.out | refine below_set ?_ GE359.out) | exact HB.out))) : w.heap.size ≤ gb366))
                   have n8_ := Aside0.mk ((by rw [hg]; exact (below_size (by repeat (first | (with_reducible first | exact HB.out | apply below_alloc | apply pw_below_drewN | apply below_drew1 | refine below_set ?_ GE348.out | refine below_set ?_ GE353.out | refine below_set ?_ GE358.out | refine below_set ?_ GE359.out) | exact HB.out))) : w.heap.size ≤ gb366))
                   have n9_ := Aside0.mk ((by rw [hg]; exact Nat.ne_of_lt (blk_lt (g := gb348) (o := .cells #[.int .i64 t342, .int .i64 t343, .int .i64 t344] 26 (0, 0)) (by (with_reducible repeat (first | apply blk_drewN | apply blk_drew | apply blk_alloc)); exact BK348.out)) : gb348 ≠ gb366))
                   have n10_ := Aside0.mk ((by rw [hg]; exact Nat.ne_of_gt (blk_lt (g := gb348) (o := .cells #[.int .i64 t342, .int .i64 t343, .int .i64 t344] 26 (0, 0)) (by (with_reducible repeat (first | apply blk_drewN | apply blk_drew | apply blk_alloc)); exact BK348.out)) : gb366 ≠ gb348))
                   have n11_ := Aside0.mk ((by rw [hg]; exact Nat.ne_of_lt (blk_lt (g := gb353) (o := .cells #[.int .i64 t349, .int .i64 t350, .int .i64 t351] 26 (0, 0)) (by (with_reducible repeat (first | apply blk_drewN | apply blk_drew | apply blk_alloc)); exact BK353.out)) : gb353 ≠ gb366))
                   have n12_ := Aside0.mk ((by rw [hg]; exact Nat.ne_of_gt (blk_lt (g := gb353) (o := .cells #[.int .i64 t349, .int .i64 t350, .int .i64 t351] 26 (0, 0)) (by (with_reducible repeat (first | apply blk_drewN | apply blk_drew | apply blk_alloc)); exact BK353.out)) : gb366 ≠ gb353))
                   have n13_ := Aside0.mk ((by rw [hg]; exact Nat.ne_of_lt (blk_lt (g := gb358) (o := .cells #[.int .i64 t354, .int .i64 t355, .int .i64 t356] 26 (0, 0)) (by (with_reducible repeat (first | apply blk_drewN | apply blk_drew | apply blk_alloc)); exact BK358.out)) : gb358 ≠ gb366))
                   have n14_ := Aside0.mk ((by rw [hg]; exact Nat.ne_of_gt (blk_lt (g := gb358) (o := .cells #[.int .i64 t354, .int .i64 t355, .int .i64 t356] 26 (0, 0)) (by (with_reducible repeat (first | apply blk_drewN | apply blk_drew | apply blk_alloc)); exact BK358.out)) : gb366 ≠ gb358))
                   have n15_ := Aside0.mk ((by rw [hg]; exact Nat.ne_of_lt (blk_lt (g := gb359) (o := .cells #[.int .i64 x360000_2, .int .i64 x360001_2, .int .i64 x360002_2] 26 (0, 0)) (by (with_reducible repeat (first | apply blk_drewN | apply blk_drew | apply blk_alloc)); exact BK359.out)) : gb359 ≠ gb366))
                   have n16_ := Aside0.mk ((by rw [hg]; exact Nat.ne_of_gt (blk_lt (g := gb359) (o := .cells #[.int .i64 x360000_2, .int .i64 x360001_2, .int .i64 x360002_2] 26 (0, 0)) (by (with_reducible repeat (first | apply blk_drewN | apply blk_drew | apply blk_alloc)); exact BK359.out)) : gb366 ≠ gb359))
                   clear HO_4
                   clear BK348
                   clear BK353
                   clear BK358
                   clear BK359
                   clear HB
                   have HO_4 := n0_
                   have BK348 := n1_
                   have BK353 := n2_
                   have BK358 := n3_
                   have BK359 := n4_
                   have HB := n5_
                   have BK366 := n6_
                   have GW366 := n7_
                   have GE366 := n8_
                   have NB348_366 := n9_
                   have NB366_348 := n10_
                   have NB353_366 := n11_
                   have NB366_353 := n12_
                   have NB358_366 := n13_
                   have NB366_358 := n14_
                   have NB359_366 := n15_
                   have NB366_359 := n16_
                   clear n0_ n1_ n2_ n3_ n4_ n5_ n6_ n7_ n8_ n9_ n10_ n11_ n12_ n13_ n14_ n15_ n16_
                   clear hb hbox hg
                   refine hK.out _ _ ⟨(blk_cell BK359.out 0).trans rfl, (blk_cell BK359.out 1).trans rfl, (blk_cell BK359.out 2).trans rfl, HS3_, HS4_, HS5_, HS6_, HS7_, HS8_⟩ (fun hHeld => ?_)
                   clear hK K
                   refine norm_ (a' := ?_) ?_ ?_
                   rotate_left
                   · show Act.put _ (some 11) _ = _
                     simp only [Act.put, List.setIfInBounds_toArray, List.set_cons_zero, List.set_cons_succ, i64_w, i32_w]
                     rfl
                   refine one_ (i := 11) (N := some 72) #[true, true, true, true, true, true, true, true, true, true, true, true, false, false, false, true, false, false] rfl rfl (one_of HT_.out (by kernel_rfl)) (by decide) (fun K hK => ?_)
                   refine goes_ Try.func15 (by kernel_rfl) rfl #[.agg #[.int .i64 x360000_2, .int .i64 x360001_2, .int .i64 x360002_2], .int .i64 ((rd_T40 t345 x10_2).f2), .int .i64 ((rd_T40 t345 x10_2).f0)] (by rfl) rfl rfl (by (try simp only [List.map_toArray, List.map_cons, List.map_nil]); first | done | rfl | (simp only [List.length_drop, List.length_take]; rfl)) ?_
                   with_reducible refine (impl_StepClock.calls k2 x360000_2 x360001_2 x360002_2 ((rd_T40 t345 x10_2).f2) ((rd_T40 t345 x10_2).f0) t362 t363 t364 true _ A60.out).mono ?_
                   rintro e w64 ⟨rfl, hb⟩
                   have HS3_ := (hb.cell (World.block_lt_of_cell? _ _ (hHeld.2.2.2.1))).trans (hHeld.2.2.2.1)
                   have HS4_ := (hb.cell (World.block_lt_of_cell? _ _ (hHeld.2.2.2.2.1))).trans (hHeld.2.2.2.2.1)
                   have HS5_ := (hb.cell (World.block_lt_of_cell? _ _ (hHeld.2.2.2.2.2.1))).trans (hHeld.2.2.2.2.2.1)
                   have HS6_ := (hb.cell (World.block_lt_of_cell? _ _ (hHeld.2.2.2.2.2.2.1))).trans (hHeld.2.2.2.2.2.2.1)
                   have HS7_ := (hb.cell (World.block_lt_of_cell? _ _ (hHeld.2.2.2.2.2.2.2.1))).trans (hHeld.2.2.2.2.2.2.2.1)
                   have HS8_ := (hb.cell (World.block_lt_of_cell? _ _ (hHeld.2.2.2.2.2.2.2.2))).trans (hHeld.2.2.2.2.2.2.2.2)
                   refine ⟨_, rfl, ?_⟩
                   have n0_ := Aside0.mk (Kd.R_below (by (with_reducible repeat (first | apply Kd.R_alloc | apply Kd.R_drewN | apply Kd.R_drew)); exact HO_4.out) hb)
                   have n1_ := Aside0.mk (blk_below (g := gb348) (o := .cells #[.int .i64 t342, .int .i64 t343, .int .i64 t344] 26 (0, 0)) (by (with_reducible repeat (first | apply blk_drewN | apply blk_drew | apply blk_alloc)); exact BK348.out) hb)
                   have n2_ := Aside0.mk (blk_below (g := gb353) (o := .cells #[.int .i64 t349, .int .i64 t350, .int .i64 t351] 26 (0, 0)) (by (with_reducible repeat (first | apply blk_drewN | apply blk_drew | apply blk_alloc)); exact BK353.out) hb)
                   have n3_ := Aside0.mk (blk_below (g := gb358) (o := .cells #[.int .i64 t354, .int .i64 t355, .int .i64 t356] 26 (0, 0)) (by (with_reducible repeat (first | apply blk_drewN | apply blk_drew | apply blk_alloc)); exact BK358.out) hb)
                   have n4_ := Aside0.mk (blk_below (g := gb359) (o := .cells #[.int .i64 x360000_2, .int .i64 x360001_2, .int .i64 x360002_2] 26 (0, 0)) (by (with_reducible repeat (first | apply blk_drewN | apply blk_drew | apply blk_alloc)); exact BK359.out) hb)
                   have n5_ := Aside0.mk (blk_below (g := gb366) (o := .cells #[.int .i64 0, .int .i64 0, .int .i64 0] 26 (0, 0)) (by (with_reducible repeat (first | apply blk_drewN | apply blk_drew | apply blk_alloc)); exact BK366.out) hb)
                   have n6_ := Aside0.mk (below_step (by repeat (first | (with_reducible first | exact HB.out | apply below_alloc | apply pw_below_drewN | apply below_drew1 | refine below_set ?_ GE348.out | refine below_set ?_ GE353.out | refine below_set ?_ GE358.out | refine below_set ?_ GE359.out | refine below_set ?_ GE366.out) | exact HB.out)) hb)
                   clear HO_4
                   clear BK348
                   clear BK353
                   clear BK358
                   clear BK359
                   clear BK366
                   clear HB
                   have HO_4 := n0_
                   have BK348 := n1_
                   have BK353 := n2_
                   have BK358 := n3_
                   have BK359 := n4_
                   have BK366 := n5_
                   have HB := n6_
                   clear n0_ n1_ n2_ n3_ n4_ n5_ n6_
                   (try clear hb)
                   (try clear hb2)
                   (try clear hk)
                   (try clear hi)
                   refine hK.out _ _ ⟨(blk_cell BK359.out 0).trans rfl, (blk_cell BK359.out 1).trans rfl, (blk_cell BK359.out 2).trans rfl, HS3_, HS4_, HS5_, HS6_, HS7_, HS8_⟩ (fun hHeld => ?_)
                   clear hK K
                   refine norm_ (a' := ?_) ?_ ?_
                   rotate_left
                   · show Act.put _ (some 72) _ = _
                     simp only [Act.put, List.setIfInBounds_toArray, List.set_cons_zero, List.set_cons_succ, i64_w, i32_w]
                     rfl
                   refine pure_ (i := 12) (N := some 60) (v := ?_) (a' := ?_) #[true, true, true, true, true, true, true, true, true, true, true, true, true, false, false, true, false, false] rfl rfl (any_of HT_.out (by kernel_rfl)) (fun _ _ _ h => h) (Or.inl ⟨by rfl, ?_⟩) ?_ ?_
                   rotate_left
                   · intro w'
                     go_simp
                     with_reducible rfl
                   rotate_left
                   · simp only [Act.put, List.setIfInBounds_toArray, List.set_cons_zero, List.set_cons_succ, i64_w, i32_w]
                     rfl
                   refine pure_ (i := 13) (N := some 73) (v := ?_) (a' := ?_) #[true, true, true, true, true, true, true, true, true, true, true, true, true, true, false, true, false, false] rfl rfl (any_of HT_.out (by kernel_rfl)) (fun _ _ _ h => h) (Or.inl ⟨by rfl, ?_⟩) ?_ ?_
                   rotate_left
                   · intro w'
                     go_simp
                     with_reducible rfl
                   rotate_left
                   · simp only [Act.put, List.setIfInBounds_toArray, List.set_cons_zero, List.set_cons_succ, i64_w, i32_w]
                     rfl
                   refine pure_ (i := 14) (N := some 74) (v := ?_) (a' := ?_) #[true, true, true, true, true, true, true, true, true, true, true, true, true, true, true, true, false, false] rfl rfl (any_of HT_.out (by kernel_rfl)) (fun _ _ _ h => h) (Or.inl ⟨by rfl, ?_⟩) ?_ ?_
                   rotate_left
                   · intro w'
                     go_simp
                     with_reducible rfl
                   rotate_left
                   · simp only [Act.put, List.setIfInBounds_toArray, List.set_cons_zero, List.set_cons_succ, i64_w, i32_w]
                     rfl
                   exact norm_ (by simp only [putAll, Act.put, List.setIfInBounds_toArray, List.set_cons_zero, List.set_cons_succ]) (hCont (gb366) _ ⟨hHeld, (by (with_reducible repeat (first | apply Kd.R_alloc | apply Kd.R_drewN | apply Kd.R_drew)); exact HO_4.out), (by (with_reducible repeat (first | apply blk_drewN | apply blk_drew | apply blk_alloc)); exact BK348.out), (by (with_reducible repeat (first | apply blk_drewN | apply blk_drew | apply blk_alloc)); exact BK353.out), (by (with_reducible repeat (first | apply blk_drewN | apply blk_drew | apply blk_alloc)); exact BK358.out), (by (with_reducible repeat (first | apply blk_drewN | apply blk_drew | apply blk_alloc)); exact BK359.out), (by (with_reducible repeat (first | apply blk_drewN | apply blk_drew | apply blk_alloc)); exact BK366.out), GW366.out, GE366.out, NB348_366.out, NB366_348.out, NB353_366.out, NB366_353.out, NB358_366.out, NB366_358.out, NB359_366.out, NB366_359.out, (by repeat (first | (with_reducible first | exact HB.out | apply below_alloc | apply pw_below_drewN | apply below_drew1 | refine below_set ?_ GE348.out | refine below_set ?_ GE353.out | refine below_set ?_ GE358.out | refine below_set ?_ GE359.out | refine below_set ?_ GE366.out) | exact HB.out))⟩)
               rintro gb366 w65 ⟨hS_, h0_, h1_, h2_, h3_, h4_, h5_, h6_, h7_, h8_, h9_, h10_, h11_, h12_, h13_, h14_, h15_, h16_⟩
               have n0_ : Aside0 (Kd.R k40 40 w65 w.heap.size (fun _ => True) (.slice (some ad360) t345.length co10) t345) := ⟨h0_⟩
               have n1_ : Aside0 (w65.heap[gb348]? = some (.cells #[.int .i64 t342, .int .i64 t343, .int .i64 t344] 26 (0, 0))) := ⟨h1_⟩
               have n2_ : Aside0 (w65.heap[gb353]? = some (.cells #[.int .i64 t349, .int .i64 t350, .int .i64 t351] 26 (0, 0))) := ⟨h2_⟩
               have n3_ : Aside0 (w65.heap[gb358]? = some (.cells #[.int .i64 t354, .int .i64 t355, .int .i64 t356] 26 (0, 0))) := ⟨h3_⟩
               have n4_ : Aside0 (w65.heap[gb359]? = some (.cells #[.int .i64 x360000_2, .int .i64 x360001_2, .int .i64 x360002_2] 26 (0, 0))) := ⟨h4_⟩
               have n5_ : Aside0 (w65.heap[gb366]? = some (.cells #[.int .i64 0, .int .i64 0, .int .i64 0] 26 (0, 0))) := ⟨h5_⟩
               have n6_ : Aside0 (w.heap.size ≤ gb366) := ⟨h6_⟩
               have n7_ : Aside0 (w.heap.size ≤ gb366) := ⟨h7_⟩
               have n8_ : Aside0 (gb348 ≠ gb366) := ⟨h8_⟩
               have n9_ : Aside0 (gb366 ≠ gb348) := ⟨h9_⟩
               have n10_ : Aside0 (gb353 ≠ gb366) := ⟨h10_⟩
               have n11_ : Aside0 (gb366 ≠ gb353) := ⟨h11_⟩
               have n12_ : Aside0 (gb358 ≠ gb366) := ⟨h12_⟩
               have n13_ : Aside0 (gb366 ≠ gb358) := ⟨h13_⟩
               have n14_ : Aside0 (gb359 ≠ gb366) := ⟨h14_⟩
               have n15_ : Aside0 (gb366 ≠ gb359) := ⟨h15_⟩
               have n16_ : Aside0 (Below w.heap.size w w65) := ⟨h16_⟩
               clear HO_4
               clear BK348
               clear BK353
               clear BK358
               clear BK359
               clear HB
               clear h0_ h1_ h2_ h3_ h4_ h5_ h6_ h7_ h8_ h9_ h10_ h11_ h12_ h13_ h14_ h15_ h16_
               have HO_4 := n0_
               have BK348 := n1_
               have BK353 := n2_
               have BK358 := n3_
               have BK359 := n4_
               have BK366 := n5_
               have GW366 := n6_
               have GE366 := n7_
               have NB348_366 := n8_
               have NB366_348 := n9_
               have NB353_366 := n10_
               have NB366_353 := n11_
               have NB358_366 := n12_
               have NB366_358 := n13_
               have NB359_366 := n14_
               have NB366_359 := n15_
               have HB := n16_
               clear n0_ n1_ n2_ n3_ n4_ n5_ n6_ n7_ n8_ n9_ n10_ n11_ n12_ n13_ n14_ n15_ n16_
               have hHeld : w65.cell? ⟨gb359, 0, none⟩ = some (.int .i64 x360000_2) ∧ w65.cell? ⟨gb359, 1, none⟩ = some (.int .i64 x360001_2) ∧ w65.cell? ⟨gb359, 2, none⟩ = some (.int .i64 x360002_2) ∧ w65.cell? (ad360.add ((x10_2).toNat * 3)) = some (.int .i64 ((rd_T40 t345 x10_2).f0)) ∧ w65.cell? ⟨(ad360.add ((x10_2).toNat * 3)).block, (ad360.add ((x10_2).toNat * 3)).off + 1, none⟩ = some (.int .i64 ((rd_T40 t345 x10_2).f1)) ∧ w65.cell? ⟨(ad360.add ((x10_2).toNat * 3)).block, (ad360.add ((x10_2).toNat * 3)).off + 2, none⟩ = some (.int .i64 ((rd_T40 t345 x10_2).f2)) ∧ w65.cell? (ad360.add ((x10_2).toNat * 3)) = some (.int .i64 ((rd_T40 t345 x10_2).f0)) ∧ w65.cell? ⟨(ad360.add ((x10_2).toNat * 3)).block, (ad360.add ((x10_2).toNat * 3)).off + 1, none⟩ = some (.int .i64 ((rd_T40 t345 x10_2).f1)) ∧ w65.cell? ⟨(ad360.add ((x10_2).toNat * 3)).block, (ad360.add ((x10_2).toNat * 3)).off + 2, none⟩ = some (.int .i64 ((rd_T40 t345 x10_2).f2)) := hS_
               refine norm_ (a' := ?_) ?_ ?_
               rotate_left
               · simp only [putAll, Act.put, List.setIfInBounds_toArray, List.set_cons_zero, List.set_cons_succ]
                 rfl
               refine one_ (i := 16) (N := none) #[true, true, true, true, true, true, true, true, true, true, true, true, true, true, true, true, true, false] rfl rfl (one_of HT_.out (by kernel_rfl)) (by decide) (fun K hK => ?_)
               have hs66 : w65.cell? ⟨gb366, 0, none⟩ = some (.int .i64 0) := (blk_cell BK366.out 0).trans rfl
               have hfs66 := blk_frozen BK366.out 0
               have hns66_0 := NB348_366.out
               have hns66_1 := NB353_366.out
               have hns66_2 := NB358_366.out
               have hns66_3 := NB359_366.out
               have hms66_0 := NB366_348.out
               have hms66_1 := NB366_353.out
               have hms66_2 := NB366_358.out
               have hms66_3 := NB366_359.out
               have hs67 : w65.cell? ⟨gb366, 1, none⟩ = some (.int .i64 0) := (blk_cell BK366.out 1).trans rfl
               have hfs67 := blk_frozen BK366.out 1
               have hns67_0 := NB348_366.out
               have hns67_1 := NB353_366.out
               have hns67_2 := NB358_366.out
               have hns67_3 := NB359_366.out
               have hms67_0 := NB366_348.out
               have hms67_1 := NB366_353.out
               have hms67_2 := NB366_358.out
               have hms67_3 := NB366_359.out
               have hs68 : w65.cell? ⟨gb366, 2, none⟩ = some (.int .i64 0) := (blk_cell BK366.out 2).trans rfl
               have hfs68 := blk_frozen BK366.out 2
               have hns68_0 := NB348_366.out
               have hns68_1 := NB353_366.out
               have hns68_2 := NB358_366.out
               have hns68_3 := NB359_366.out
               have hms68_0 := NB366_348.out
               have hms68_1 := NB366_353.out
               have hms68_2 := NB366_358.out
               have hms68_3 := NB366_359.out
               refine skip_ (w1 := ?_) (by rfl) rfl ?_ ?_
               rotate_left
               · go_simp
                 rfl
               refine hK.out _ _ ⟨((cell_far (p := ⟨gb366, _, none⟩) NB359_366.out _).trans (((cell_far (p := ⟨gb366, _, none⟩) NB359_366.out _).trans (((cell_far (p := ⟨gb366, _, none⟩) NB359_366.out _).trans (hHeld.1)))))), ((cell_far (p := ⟨gb366, _, none⟩) NB359_366.out _).trans (((cell_far (p := ⟨gb366, _, none⟩) NB359_366.out _).trans (((cell_far (p := ⟨gb366, _, none⟩) NB359_366.out _).trans (hHeld.2.1)))))), ((cell_far (p := ⟨gb366, _, none⟩) NB359_366.out _).trans (((cell_far (p := ⟨gb366, _, none⟩) NB359_366.out _).trans (((cell_far (p := ⟨gb366, _, none⟩) NB359_366.out _).trans (hHeld.2.2.1)))))), ((cell_far (p := ⟨gb366, _, none⟩) (by first | exact Kd.own_blk (Kd.R_ne HO_4.out BK366.out (by decide)) | (rw [add_block]; exact Kd.own_blk (Kd.R_ne HO_4.out BK366.out (by decide))) | (show (Addr.add _ _).block ≠ _; rw [add_block]; exact Kd.own_blk (Kd.R_ne HO_4.out BK366.out (by decide))) | (dsimp only; exact Kd.own_blk (Kd.R_ne HO_4.out BK366.out (by decide)))) _).trans (((cell_far (p := ⟨gb366, _, none⟩) (by first | exact Kd.own_blk (Kd.R_ne HO_4.out BK366.out (by decide)) | (rw [add_block]; exact Kd.own_blk (Kd.R_ne HO_4.out BK366.out (by decide))) | (show (Addr.add _ _).block ≠ _; rw [add_block]; exact Kd.own_blk (Kd.R_ne HO_4.out BK366.out (by decide))) | (dsimp only; exact Kd.own_blk (Kd.R_ne HO_4.out BK366.out (by decide)))) _).trans (((cell_far (p := ⟨gb366, _, none⟩) (by first | exact Kd.own_blk (Kd.R_ne HO_4.out BK366.out (by decide)) | (rw [add_block]; exact Kd.own_blk (Kd.R_ne HO_4.out BK366.out (by decide))) | (show (Addr.add _ _).block ≠ _; rw [add_block]; exact Kd.own_blk (Kd.R_ne HO_4.out BK366.out (by decide))) | (dsimp only; exact Kd.own_blk (Kd.R_ne HO_4.out BK366.out (by decide)))) _).trans (hHeld.2.2.2.1)))))), ((cell_far (p := ⟨gb366, _, none⟩) (by first | exact Kd.own_blk (Kd.R_ne HO_4.out BK366.out (by decide)) | (rw [add_block]; exact Kd.own_blk (Kd.R_ne HO_4.out BK366.out (by decide))) | (show (Addr.add _ _).block ≠ _; rw [add_block]; exact Kd.own_blk (Kd.R_ne HO_4.out BK366.out (by decide))) | (dsimp only; exact Kd.own_blk (Kd.R_ne HO_4.out BK366.out (by decide)))) _).trans (((cell_far (p := ⟨gb366, _, none⟩) (by first | exact Kd.own_blk (Kd.R_ne HO_4.out BK366.out (by decide)) | (rw [add_block]; exact Kd.own_blk (Kd.R_ne HO_4.out BK366.out (by decide))) | (show (Addr.add _ _).block ≠ _; rw [add_block]; exact Kd.own_blk (Kd.R_ne HO_4.out BK366.out (by decide))) | (dsimp only; exact Kd.own_blk (Kd.R_ne HO_4.out BK366.out (by decide)))) _).trans (((cell_far (p := ⟨gb366, _, none⟩) (by first | exact Kd.own_blk (Kd.R_ne HO_4.out BK366.out (by decide)) | (rw [add_block]; exact Kd.own_blk (Kd.R_ne HO_4.out BK366.out (by decide))) | (show (Addr.add _ _).block ≠ _; rw [add_block]; exact Kd.own_blk (Kd.R_ne HO_4.out BK366.out (by decide))) | (dsimp only; exact Kd.own_blk (Kd.R_ne HO_4.out BK366.out (by decide)))) _).trans (hHeld.2.2.2.2.1)))))), ((cell_far (p := ⟨gb366, _, none⟩) (by first | exact Kd.own_blk (Kd.R_ne HO_4.out BK366.out (by decide)) | (rw [add_block]; exact Kd.own_blk (Kd.R_ne HO_4.out BK366.out (by decide))) | (show (Addr.add _ _).block ≠ _; rw [add_block]; exact Kd.own_blk (Kd.R_ne HO_4.out BK366.out (by decide))) | (dsimp only; exact Kd.own_blk (Kd.R_ne HO_4.out BK366.out (by decide)))) _).trans (((cell_far (p := ⟨gb366, _, none⟩) (by first | exact Kd.own_blk (Kd.R_ne HO_4.out BK366.out (by decide)) | (rw [add_block]; exact Kd.own_blk (Kd.R_ne HO_4.out BK366.out (by decide))) | (show (Addr.add _ _).block ≠ _; rw [add_block]; exact Kd.own_blk (Kd.R_ne HO_4.out BK366.out (by decide))) | (dsimp only; exact Kd.own_blk (Kd.R_ne HO_4.out BK366.out (by decide)))) _).trans (((cell_far (p := ⟨gb366, _, none⟩) (by first | exact Kd.own_blk (Kd.R_ne HO_4.out BK366.out (by decide)) | (rw [add_block]; exact Kd.own_blk (Kd.R_ne HO_4.out BK366.out (by decide))) | (show (Addr.add _ _).block ≠ _; rw [add_block]; exact Kd.own_blk (Kd.R_ne HO_4.out BK366.out (by decide))) | (dsimp only; exact Kd.own_blk (Kd.R_ne HO_4.out BK366.out (by decide)))) _).trans (hHeld.2.2.2.2.2.1)))))), ((cell_far (p := ⟨gb366, _, none⟩) (by first | exact Kd.own_blk (Kd.R_ne HO_4.out BK366.out (by decide)) | (rw [add_block]; exact Kd.own_blk (Kd.R_ne HO_4.out BK366.out (by decide))) | (show (Addr.add _ _).block ≠ _; rw [add_block]; exact Kd.own_blk (Kd.R_ne HO_4.out BK366.out (by decide))) | (dsimp only; exact Kd.own_blk (Kd.R_ne HO_4.out BK366.out (by decide)))) _).trans (((cell_far (p := ⟨gb366, _, none⟩) (by first | exact Kd.own_blk (Kd.R_ne HO_4.out BK366.out (by decide)) | (rw [add_block]; exact Kd.own_blk (Kd.R_ne HO_4.out BK366.out (by decide))) | (show (Addr.add _ _).block ≠ _; rw [add_block]; exact Kd.own_blk (Kd.R_ne HO_4.out BK366.out (by decide))) | (dsimp only; exact Kd.own_blk (Kd.R_ne HO_4.out BK366.out (by decide)))) _).trans (((cell_far (p := ⟨gb366, _, none⟩) (by first | exact Kd.own_blk (Kd.R_ne HO_4.out BK366.out (by decide)) | (rw [add_block]; exact Kd.own_blk (Kd.R_ne HO_4.out BK366.out (by decide))) | (show (Addr.add _ _).block ≠ _; rw [add_block]; exact Kd.own_blk (Kd.R_ne HO_4.out BK366.out (by decide))) | (dsimp only; exact Kd.own_blk (Kd.R_ne HO_4.out BK366.out (by decide)))) _).trans (hHeld.2.2.2.2.2.2.1)))))), ((cell_far (p := ⟨gb366, _, none⟩) (by first | exact Kd.own_blk (Kd.R_ne HO_4.out BK366.out (by decide)) | (rw [add_block]; exact Kd.own_blk (Kd.R_ne HO_4.out BK366.out (by decide))) | (show (Addr.add _ _).block ≠ _; rw [add_block]; exact Kd.own_blk (Kd.R_ne HO_4.out BK366.out (by decide))) | (dsimp only; exact Kd.own_blk (Kd.R_ne HO_4.out BK366.out (by decide)))) _).trans (((cell_far (p := ⟨gb366, _, none⟩) (by first | exact Kd.own_blk (Kd.R_ne HO_4.out BK366.out (by decide)) | (rw [add_block]; exact Kd.own_blk (Kd.R_ne HO_4.out BK366.out (by decide))) | (show (Addr.add _ _).block ≠ _; rw [add_block]; exact Kd.own_blk (Kd.R_ne HO_4.out BK366.out (by decide))) | (dsimp only; exact Kd.own_blk (Kd.R_ne HO_4.out BK366.out (by decide)))) _).trans (((cell_far (p := ⟨gb366, _, none⟩) (by first | exact Kd.own_blk (Kd.R_ne HO_4.out BK366.out (by decide)) | (rw [add_block]; exact Kd.own_blk (Kd.R_ne HO_4.out BK366.out (by decide))) | (show (Addr.add _ _).block ≠ _; rw [add_block]; exact Kd.own_blk (Kd.R_ne HO_4.out BK366.out (by decide))) | (dsimp only; exact Kd.own_blk (Kd.R_ne HO_4.out BK366.out (by decide)))) _).trans (hHeld.2.2.2.2.2.2.2.1)))))), ((cell_far (p := ⟨gb366, _, none⟩) (by first | exact Kd.own_blk (Kd.R_ne HO_4.out BK366.out (by decide)) | (rw [add_block]; exact Kd.own_blk (Kd.R_ne HO_4.out BK366.out (by decide))) | (show (Addr.add _ _).block ≠ _; rw [add_block]; exact Kd.own_blk (Kd.R_ne HO_4.out BK366.out (by decide))) | (dsimp only; exact Kd.own_blk (Kd.R_ne HO_4.out BK366.out (by decide)))) _).trans (((cell_far (p := ⟨gb366, _, none⟩) (by first | exact Kd.own_blk (Kd.R_ne HO_4.out BK366.out (by decide)) | (rw [add_block]; exact Kd.own_blk (Kd.R_ne HO_4.out BK366.out (by decide))) | (show (Addr.add _ _).block ≠ _; rw [add_block]; exact Kd.own_blk (Kd.R_ne HO_4.out BK366.out (by decide))) | (dsimp only; exact Kd.own_blk (Kd.R_ne HO_4.out BK366.out (by decide)))) _).trans (((cell_far (p := ⟨gb366, _, none⟩) (by first | exact Kd.own_blk (Kd.R_ne HO_4.out BK366.out (by decide)) | (rw [add_block]; exact Kd.own_blk (Kd.R_ne HO_4.out BK366.out (by decide))) | (show (Addr.add _ _).block ≠ _; rw [add_block]; exact Kd.own_blk (Kd.R_ne HO_4.out BK366.out (by decide))) | (dsimp only; exact Kd.own_blk (Kd.R_ne HO_4.out BK366.out (by decide)))) _).trans (hHeld.2.2.2.2.2.2.2.2))))))⟩ (fun hHeld => ?_)
               clear hK K
               refine pure_ (i := 17) (N := some 12) (v := ?_) (a' := ?_) #[true, true, true, true, true, true, true, true, true, true, true, true, true, true, true, true, true, true] rfl rfl (any_of HT_.out (by kernel_rfl)) (fun _ _ _ h => h) (Or.inl ⟨by rfl, ?_⟩) ?_ ?_
               rotate_left
               · intro w'
                 go_simp
                 with_reducible rfl
               rotate_left
               · simp only [Act.put, List.setIfInBounds_toArray, List.set_cons_zero, List.set_cons_succ, i64_w, i32_w]
                 rfl
               refine done_ (done_of HT_.out (by kernel_rfl)) ?_
               have hnb69 := NB366_348.out
               have hnc69 := NB348_366.out
               have hnb70 := NB366_353.out
               have hnc70 := NB353_366.out
               have hnb71 := NB366_358.out
               have hnc71 := NB358_366.out
               have hnb72 := NB366_359.out
               have hnc72 := NB359_366.out
               have hcz73_0 : w65.cell? ⟨gb366, 0, none⟩ = some (.int .i64 0) := (blk_cell BK366.out 0).trans rfl
               have hcz73_1 : w65.cell? ⟨gb366, 1, none⟩ = some (.int .i64 0) := (blk_cell BK366.out 1).trans rfl
               have hcz73_2 : w65.cell? ⟨gb366, 2, none⟩ = some (.int .i64 0) := (blk_cell BK366.out 2).trans rfl
               have hfz73_0 := blk_frozen BK366.out 0
               have hfz73_1 := blk_frozen BK366.out 1
               have hfz73_2 := blk_frozen BK366.out 2
               have hnb74 := NB359_348.out
               have hnc74 := NB348_359.out
               have hnb75 := NB359_353.out
               have hnc75 := NB353_359.out
               have hnb76 := NB359_358.out
               have hnc76 := NB358_359.out
               have hcz77_0 : w65.cell? ⟨gb359, 0, none⟩ = some (.int .i64 x360000_2) := (blk_cell BK359.out 0).trans rfl
               have hcz77_1 : w65.cell? ⟨gb359, 1, none⟩ = some (.int .i64 x360001_2) := (blk_cell BK359.out 1).trans rfl
               have hcz77_2 : w65.cell? ⟨gb359, 2, none⟩ = some (.int .i64 x360002_2) := (blk_cell BK359.out 2).trans rfl
               have hfz77_0 := blk_frozen BK359.out 0
               have hfz77_1 := blk_frozen BK359.out 1
               have hfz77_2 := blk_frozen BK359.out 2
               try go_wp2
               go_roundg k2
               case measure => have := HJ5.out; have := HK2.out; omega
               case rel => exact ⟨(wrap64 (x10_2 + 1)), (t362), (t363), (t364), (by first | rfl | (simp; done) | (simp [*]; done)), H', ⟨by have := HJ5.out; have := HK2.out; omega⟩, ⟨by (with_reducible repeat (first | apply Kd.R_alloc | apply Kd.R_drewN | apply Kd.R_drew)); exact Kd.R_mono (Kd.R_far (p := ⟨gb359, 2, none⟩) (Kd.R_far (p := ⟨gb359, 1, none⟩) (Kd.R_far (p := ⟨gb359, 0, none⟩) (Kd.R_far (p := ⟨gb366, 2, none⟩) (Kd.R_far (p := ⟨gb366, 1, none⟩) (Kd.R_far (p := ⟨gb366, 0, none⟩) (Kd.R_types (Kd.R_types HO_4.out BK366.out (by decide)) BK359.out (by decide)) (fun _ hk => hk.1.2) (.int .i64 t362)) (fun _ hk => hk.1.2) (.int .i64 t363)) (fun _ hk => hk.1.2) (.int .i64 t364)) (fun _ hk => hk.2) (.int .i64 t362)) (fun _ hk => hk.2) (.int .i64 t363)) (fun _ hk => hk.2) (.int .i64 t364)) (fun _ hk => trivial)⟩, ⟨by (with_reducible repeat (first | apply blk_drewN | apply blk_drew | apply blk_alloc)); refine blk_far ?_ NB348_359.out _; (with_reducible repeat (first | apply blk_drewN | apply blk_drew | apply blk_alloc)); refine blk_far ?_ NB348_359.out _; (with_reducible repeat (first | apply blk_drewN | apply blk_drew | apply blk_alloc)); refine blk_far ?_ NB348_359.out _; (with_reducible repeat (first | apply blk_drewN | apply blk_drew | apply blk_alloc)); refine blk_far ?_ NB348_366.out _; (with_reducible repeat (first | apply blk_drewN | apply blk_drew | apply blk_alloc)); refine blk_far ?_ NB348_366.out _; (with_reducible repeat (first | apply blk_drewN | apply blk_drew | apply blk_alloc)); refine blk_far ?_ NB348_366.out _; (with_reducible repeat (first | apply blk_drewN | apply blk_drew | apply blk_alloc)); exact BK348.out⟩, ⟨by (with_reducible repeat (first | apply blk_drewN | apply blk_drew | apply blk_alloc)); refine blk_far ?_ NB353_359.out _; (with_reducible repeat (first | apply blk_drewN | apply blk_drew | apply blk_alloc)); refine blk_far ?_ NB353_359.out _; (with_reducible repeat (first | apply blk_drewN | apply blk_drew | apply blk_alloc)); refine blk_far ?_ NB353_359.out _; (with_reducible repeat (first | apply blk_drewN | apply blk_drew | apply blk_alloc)); refine blk_far ?_ NB353_366.out _; (with_reducible repeat (first | apply blk_drewN | apply blk_drew | apply blk_alloc)); refine blk_far ?_ NB353_366.out _; (with_reducible repeat (first | apply blk_drewN | apply blk_drew | apply blk_alloc)); refine blk_far ?_ NB353_366.out _; (with_reducible repeat (first | apply blk_drewN | apply blk_drew | apply blk_alloc)); exact BK353.out⟩, ⟨by (with_reducible repeat (first | apply blk_drewN | apply blk_drew | apply blk_alloc)); refine blk_far ?_ NB358_359.out _; (with_reducible repeat (first | apply blk_drewN | apply blk_drew | apply blk_alloc)); refine blk_far ?_ NB358_359.out _; (with_reducible repeat (first | apply blk_drewN | apply blk_drew | apply blk_alloc)); refine blk_far ?_ NB358_359.out _; (with_reducible repeat (first | apply blk_drewN | apply blk_drew | apply blk_alloc)); refine blk_far ?_ NB358_366.out _; (with_reducible repeat (first | apply blk_drewN | apply blk_drew | apply blk_alloc)); refine blk_far ?_ NB358_366.out _; (with_reducible repeat (first | apply blk_drewN | apply blk_drew | apply blk_alloc)); refine blk_far ?_ NB358_366.out _; (with_reducible repeat (first | apply blk_drewN | apply blk_drew | apply blk_alloc)); exact BK358.out⟩, ⟨by (with_reducible repeat (first | apply blk_drewN | apply blk_drew | apply blk_alloc)); refine blk_put (cs := #[.int .i64 t362, .int .i64 t363, .int .i64 x360002_2]) ?_ 2 _ rfl; (with_reducible repeat (first | apply blk_drewN | apply blk_drew | apply blk_alloc)); refine blk_put (cs := #[.int .i64 t362, .int .i64 x360001_2, .int .i64 x360002_2]) ?_ 1 _ rfl; (with_reducible repeat (first | apply blk_drewN | apply blk_drew | apply blk_alloc)); refine blk_put (cs := #[.int .i64 x360000_2, .int .i64 x360001_2, .int .i64 x360002_2]) ?_ 0 _ rfl; (with_reducible repeat (first | apply blk_drewN | apply blk_drew | apply blk_alloc)); refine blk_far ?_ NB359_366.out _; (with_reducible repeat (first | apply blk_drewN | apply blk_drew | apply blk_alloc)); refine blk_far ?_ NB359_366.out _; (with_reducible repeat (first | apply blk_drewN | apply blk_drew | apply blk_alloc)); refine blk_far ?_ NB359_366.out _; (with_reducible repeat (first | apply blk_drewN | apply blk_drew | apply blk_alloc)); exact BK359.out⟩, ⟨by repeat (first | (with_reducible first | exact HB.out | apply below_alloc | apply pw_below_drewN | apply below_drew1 | refine below_set ?_ GE348.out | refine below_set ?_ GE353.out | refine below_set ?_ GE358.out | refine below_set ?_ GE359.out | refine below_set ?_ GE366.out) | exact HB.out)⟩⟩
             · replace c61 := Bool.eq_false_iff.mpr c61
               subst c61
               have H1 : (some false) = some r := by rw [if_neg (show ¬ (false = true) by decide)] at H; exact H
               clear H
               have H := H1
               clear H1
               obtain rfl := Option.some.inj H
               try go_wp2
               have n0_ := Aside0.mk (Kd.R_drew HO_4.out)
               have n1_ := Aside0.mk (blk_drew BK348.out)
               have n2_ := Aside0.mk (blk_drew BK353.out)
               have n3_ := Aside0.mk (blk_drew BK358.out)
               have n4_ := Aside0.mk (blk_drew BK359.out)
               have n5_ := Aside0.mk (below_drew1 HB.out)
               clear HO_4
               clear BK348
               clear BK353
               clear BK358
               clear BK359
               clear HB
               have HO_4 := n0_
               have BK348 := n1_
               have BK353 := n2_
               have BK358 := n3_
               have BK359 := n4_
               have HB := n5_
               clear n0_ n1_ n2_ n3_ n4_ n5_
               have p360 : 0 ≤ (x10_2 : Int) := of_decide_eq_true (by first | (with_reducible assumption) | assumption)
               have q360 : x10_2 < (t345.length : Int) := of_decide_eq_true (by first | (with_reducible assumption) | assumption)
               obtain ⟨ad360, e360, hx360_0, hx360_1, hx360_2⟩ := at_T40 (Kd.R_reads' HO_4.out).2.2 x10_2 p360 q360
               cases e360
               replace p360 := eq_true p360
               replace q360 := eq_true q360
               have p361 : 0 ≤ (x10_2 : Int) := of_decide_eq_true (by first | (with_reducible assumption) | assumption)
               have q361 : x10_2 < (t345.length : Int) := of_decide_eq_true (by first | (with_reducible assumption) | assumption)
               obtain ⟨ad361, e361, hx361_0, hx361_1, hx361_2⟩ := at_T40 (Kd.R_reads' HO_4.out).2.2 x10_2 p361 q361
               obtain rfl : ad360 = ad361 := (by injection e361)
               replace p361 := eq_true p361
               replace q361 := eq_true q361
               refine start_ (n := 18) (S := fun w' => w'.cell? ⟨gb359, 0, none⟩ = some (.int .i64 x360000_2) ∧ w'.cell? ⟨gb359, 1, none⟩ = some (.int .i64 x360001_2) ∧ w'.cell? ⟨gb359, 2, none⟩ = some (.int .i64 x360002_2) ∧ w'.cell? (ad360.add ((x10_2).toNat * 3)) = some (.int .i64 ((rd_T40 t345 x10_2).f0)) ∧ w'.cell? ⟨(ad360.add ((x10_2).toNat * 3)).block, (ad360.add ((x10_2).toNat * 3)).off + 1, none⟩ = some (.int .i64 ((rd_T40 t345 x10_2).f1)) ∧ w'.cell? ⟨(ad360.add ((x10_2).toNat * 3)).block, (ad360.add ((x10_2).toNat * 3)).off + 2, none⟩ = some (.int .i64 ((rd_T40 t345 x10_2).f2)) ∧ w'.cell? (ad360.add ((x10_2).toNat * 3)) = some (.int .i64 ((rd_T40 t345 x10_2).f0)) ∧ w'.cell? ⟨(ad360.add ((x10_2).toNat * 3)).block, (ad360.add ((x10_2).toNat * 3)).off + 1, none⟩ = some (.int .i64 ((rd_T40 t345 x10_2).f1)) ∧ w'.cell? ⟨(ad360.add ((x10_2).toNat * 3)).block, (ad360.add ((x10_2).toNat * 3)).off + 2, none⟩ = some (.int .i64 ((rd_T40 t345 x10_2).f2))) (ds := []) #[false, false, false, false, false, false, false, false, false, false, false, false, false, false, false, false, false, false] (by kernel_rfl) rfl rfl ⟨(blk_cell BK359.out 0).trans rfl, (blk_cell BK359.out 1).trans rfl, (blk_cell BK359.out 2).trans rfl, hx360_0, hx360_1, hx360_2, hx361_0, hx361_1, hx361_2⟩ (fun hHeld => ?_); refine with_tabW laws_FnRunClock.tab12 laws_FnRunClock.bits12 (fun HT_ HW_ => ?_)
               generalize wr.drew = w78 at HO_4 BK348 BK353 BK358 BK359 HB hx360_0 hx360_1 hx360_2 hx361_0 hx361_1 hx361_2 hHeld ⊢
               refine pure_ (i := 1) (N := some 62) (v := ?_) (a' := ?_) #[false, true, false, false, false, false, false, false, false, false, false, false, false, false, false, false, false, false] rfl rfl (any_of HT_.out (by kernel_rfl)) (fun _ _ _ h => h) (Or.inl ⟨by rfl, ?_⟩) ?_ ?_
               rotate_left
               · intro w'
                 go_simp
                 with_reducible rfl
               rotate_left
               · simp only [Act.put, List.setIfInBounds_toArray, List.set_cons_zero, List.set_cons_succ, i64_w, i32_w]
                 rfl
               refine pure_ (i := 2) (N := some 63) (v := ?_) (a' := ?_) #[false, true, true, false, false, false, false, false, false, false, false, false, false, false, false, false, false, false] rfl rfl (any_of HT_.out (by kernel_rfl)) (fun _ _ _ h => h) (Or.inl ⟨by rfl, ?_⟩) ?_ ?_
               rotate_left
               · intro w'
                 go_simp
                 with_reducible rfl
               rotate_left
               · simp only [Act.put, List.setIfInBounds_toArray, List.set_cons_zero, List.set_cons_succ, i64_w, i32_w]
                 rfl
               refine pure_ (i := 3) (N := some 64) (v := ?_) (a' := ?_) #[false, true, true, true, false, false, false, false, false, false, false, false, false, false, false, false, false, false] rfl rfl (any_of HT_.out (by kernel_rfl)) (fun _ _ _ h => h) (Or.inl ⟨by rfl, ?_⟩) ?_ ?_
               rotate_left
               · intro w'
                 go_simp
                 with_reducible rfl
               rotate_left
               · simp only [Act.put, List.setIfInBounds_toArray, List.set_cons_zero, List.set_cons_succ, i64_w, i32_w]
                 rfl
               refine pure_ (i := 4) (N := some 65) (v := ?_) (a' := ?_) #[false, true, true, true, true, false, false, false, false, false, false, false, false, false, false, false, false, false] rfl rfl (any_of HT_.out (by kernel_rfl)) (fun _ _ _ h => h) (Or.inl ⟨by rfl, ?_⟩) ?_ ?_
               rotate_left
               · intro w'
                 go_simp
                 with_reducible rfl
               rotate_left
               · simp only [Act.put, List.setIfInBounds_toArray, List.set_cons_zero, List.set_cons_succ, i64_w, i32_w]
                 rfl
               refine pure_ (i := 6) (N := some 67) (v := ?_) (a' := ?_) #[false, true, true, true, true, false, true, false, false, false, false, false, false, false, false, false, false, false] rfl rfl (any_of HT_.out (by kernel_rfl)) (fun _ _ _ h => h) (Or.inl ⟨by rfl, ?_⟩) ?_ ?_
               rotate_left
               · intro w'
                 go_simp
                 with_reducible rfl
               rotate_left
               · simp only [Act.put, List.setIfInBounds_toArray, List.set_cons_zero, List.set_cons_succ, i64_w, i32_w]
                 rfl
               refine pure_ (i := 7) (N := some 68) (v := ?_) (a' := ?_) #[false, true, true, true, true, false, true, true, false, false, false, false, false, false, false, false, false, false] rfl rfl (any_of HT_.out (by kernel_rfl)) (fun _ _ _ h => h) (Or.inl ⟨by rfl, ?_⟩) ?_ ?_
               rotate_left
               · intro w'
                 go_simp
                 with_reducible rfl
               rotate_left
               · simp only [Act.put, List.setIfInBounds_toArray, List.set_cons_zero, List.set_cons_succ, i64_w, i32_w]
                 rfl
               refine pure_ (i := 8) (N := some 69) (v := ?_) (a' := ?_) #[false, true, true, true, true, false, true, true, true, false, false, false, false, false, false, false, false, false] rfl rfl (any_of HT_.out (by kernel_rfl)) (fun _ _ _ h => h) (Or.inl ⟨by rfl, ?_⟩) ?_ ?_
               rotate_left
               · intro w'
                 go_simp
                 with_reducible rfl
               rotate_left
               · simp only [Act.put, List.setIfInBounds_toArray, List.set_cons_zero, List.set_cons_succ, i64_w, i32_w]
                 rfl
               refine pure_ (i := 9) (N := some 70) (v := ?_) (a' := ?_) #[false, true, true, true, true, false, true, true, true, true, false, false, false, false, false, false, false, false] rfl rfl (any_of HT_.out (by kernel_rfl)) (fun _ _ _ h => h) (Or.inl ⟨by rfl, ?_⟩) ?_ ?_
               rotate_left
               · intro w'
                 go_simp
                 with_reducible rfl
               rotate_left
               · simp only [Act.put, List.setIfInBounds_toArray, List.set_cons_zero, List.set_cons_succ, i64_w, i32_w]
                 rfl
               refine take_ (i := 0) (N := some 61) (v := ?_) (a' := ?_) #[true, true, true, true, true, false, true, true, true, true, false, false, false, false, false, false, false, false] rfl rfl (take_ofW HT_.out HW_.out (by kernel_rfl)) (fun _ _ _ h => h) (Or.inl ⟨by rfl, ?_⟩) hHeld ?_ ?_
               rotate_left
               · rintro w' ⟨s0, s1, s2, s3, s4, s5, s6, s7, s8⟩
                 go_simp
                 with_reducible rfl
               rotate_left
               · simp only [Act.put, List.setIfInBounds_toArray, List.set_cons_zero, List.set_cons_succ, i64_w, i32_w]
                 rfl
               refine take_ (i := 5) (N := some 66) (v := ?_) (a' := ?_) #[true, true, true, true, true, true, true, true, true, true, false, false, false, false, false, false, false, false] rfl rfl (take_ofW HT_.out HW_.out (by kernel_rfl)) (fun _ _ _ h => h) (Or.inl ⟨by rfl, ?_⟩) hHeld ?_ ?_
               rotate_left
               · rintro w' ⟨s0, s1, s2, s3, s4, s5, s6, s7, s8⟩
                 go_simp
                 with_reducible rfl
               rotate_left
               · simp only [Act.put, List.setIfInBounds_toArray, List.set_cons_zero, List.set_cons_succ, i64_w, i32_w]
                 rfl
               refine take_ (i := 10) (N := some 71) (v := ?_) (a' := ?_) #[true, true, true, true, true, true, true, true, true, true, true, false, false, false, false, false, false, false] rfl rfl (take_ofW HT_.out HW_.out (by kernel_rfl)) (fun _ _ _ h => h) (Or.inl ⟨by rfl, ?_⟩) hHeld ?_ ?_
               rotate_left
               · rintro w' ⟨s0, s1, s2, s3, s4, s5, s6, s7, s8⟩
                 go_simp
                 with_reducible rfl
               rotate_left
               · simp only [Act.put, List.setIfInBounds_toArray, List.set_cons_zero, List.set_cons_succ, i64_w, i32_w]
                 rfl
               refine join_ (σ := Nat) 2 #[true, true, true, true, true, true, true, true, true, true, true, true, true, true, true, true, false, false] (fun s_ => [(72, .tuple #[.agg #[.int .i64 t362, .int .i64 t363, .int .i64 t364], .bool false]), (11, .pointer (some ⟨s_, 0, none⟩)), (60, .tuple #[.agg #[.int .i64 t362, .int .i64 t363, .int .i64 t364], .bool false]), (73, .agg #[.int .i64 t362, .int .i64 t363, .int .i64 t364]), (74, .bool false)]) (fun s_ w' => (w'.cell? ⟨gb359, 0, none⟩ = some (.int .i64 x360000_2) ∧ w'.cell? ⟨gb359, 1, none⟩ = some (.int .i64 x360001_2) ∧ w'.cell? ⟨gb359, 2, none⟩ = some (.int .i64 x360002_2) ∧ w'.cell? (ad360.add ((x10_2).toNat * 3)) = some (.int .i64 ((rd_T40 t345 x10_2).f0)) ∧ w'.cell? ⟨(ad360.add ((x10_2).toNat * 3)).block, (ad360.add ((x10_2).toNat * 3)).off + 1, none⟩ = some (.int .i64 ((rd_T40 t345 x10_2).f1)) ∧ w'.cell? ⟨(ad360.add ((x10_2).toNat * 3)).block, (ad360.add ((x10_2).toNat * 3)).off + 2, none⟩ = some (.int .i64 ((rd_T40 t345 x10_2).f2)) ∧ w'.cell? (ad360.add ((x10_2).toNat * 3)) = some (.int .i64 ((rd_T40 t345 x10_2).f0)) ∧ w'.cell? ⟨(ad360.add ((x10_2).toNat * 3)).block, (ad360.add ((x10_2).toNat * 3)).off + 1, none⟩ = some (.int .i64 ((rd_T40 t345 x10_2).f1)) ∧ w'.cell? ⟨(ad360.add ((x10_2).toNat * 3)).block, (ad360.add ((x10_2).toNat * 3)).off + 2, none⟩ = some (.int .i64 ((rd_T40 t345 x10_2).f2))) ∧ (Kd.R k40 40 w' w.heap.size (fun _ => True) (.slice (some ad360) t345.length co10) t345) ∧ (w'.heap[gb348]? = some (.cells #[.int .i64 t342, .int .i64 t343, .int .i64 t344] 26 (0, 0))) ∧ (w'.heap[gb353]? = some (.cells #[.int .i64 t349, .int .i64 t350, .int .i64 t351] 26 (0, 0))) ∧ (w'.heap[gb358]? = some (.cells #[.int .i64 t354, .int .i64 t355, .int .i64 t356] 26 (0, 0))) ∧ (w'.heap[gb359]? = some (.cells #[.int .i64 x360000_2, .int .i64 x360001_2, .int .i64 x360002_2] 26 (0, 0))) ∧ (w'.heap[s_]? = some (.cells #[.int .i64 0, .int .i64 0, .int .i64 0] 26 (0, 0))) ∧ (w.heap.size ≤ s_) ∧ (w.heap.size ≤ s_) ∧ (gb348 ≠ s_) ∧ (s_ ≠ gb348) ∧ (gb353 ≠ s_) ∧ (s_ ≠ gb353) ∧ (gb358 ≠ s_) ∧ (s_ ≠ gb358) ∧ (gb359 ≠ s_) ∧ (s_ ≠ gb359) ∧ (Below w.heap.size w w')) ?_ ?_
               rotate_left
               · intro hCont
                 refine two_ (i := 11) (j := 15) (Ni := some 72) (Nj := some 11) #[true, true, true, true, true, true, true, true, true, true, true, true, false, false, false, false, false, false] #[true, true, true, true, true, true, true, true, true, true, true, false, false, false, false, true, false, false] rfl rfl rfl rfl (two_of HT_.out (by kernel_rfl)) (by decide) (by decide) (fun K hK => ?_) (fun K hK => ?_)
                 · skip
                   refine goes_ Try.func15 (by kernel_rfl) rfl #[.agg #[.int .i64 x360000_2, .int .i64 x360001_2, .int .i64 x360002_2], .int .i64 ((rd_T40 t345 x10_2).f2), .int .i64 ((rd_T40 t345 x10_2).f0)] (by rfl) rfl rfl (by (try simp only [List.map_toArray, List.map_cons, List.map_nil]); first | done | rfl | (simp only [List.length_drop, List.length_take]; rfl)) ?_
                   with_reducible refine (impl_StepClock.calls k2 x360000_2 x360001_2 x360002_2 ((rd_T40 t345 x10_2).f2) ((rd_T40 t345 x10_2).f0) t362 t363 t364 false _ A60.out).mono ?_
                   rintro e w79 ⟨rfl, hb⟩
                   have HS3_ := (hb.cell (World.block_lt_of_cell? _ _ (hHeld.2.2.2.1))).trans (hHeld.2.2.2.1)
                   have HS4_ := (hb.cell (World.block_lt_of_cell? _ _ (hHeld.2.2.2.2.1))).trans (hHeld.2.2.2.2.1)
                   have HS5_ := (hb.cell (World.block_lt_of_cell? _ _ (hHeld.2.2.2.2.2.1))).trans (hHeld.2.2.2.2.2.1)
                   have HS6_ := (hb.cell (World.block_lt_of_cell? _ _ (hHeld.2.2.2.2.2.2.1))).trans (hHeld.2.2.2.2.2.2.1)
                   have HS7_ := (hb.cell (World.block_lt_of_cell? _ _ (hHeld.2.2.2.2.2.2.2.1))).trans (hHeld.2.2.2.2.2.2.2.1)
                   have HS8_ := (hb.cell (World.block_lt_of_cell? _ _ (hHeld.2.2.2.2.2.2.2.2))).trans (hHeld.2.2.2.2.2.2.2.2)
                   refine ⟨_, rfl, ?_⟩
                   have n0_ := Aside0.mk (Kd.R_below (by (with_reducible repeat (first | apply Kd.R_alloc | apply Kd.R_drewN | apply Kd.R_drew)); exact HO_4.out) hb)
                   have n1_ := Aside0.mk (blk_below (g := gb348) (o := .cells #[.int .i64 t342, .int .i64 t343, .int .i64 t344] 26 (0, 0)) (by (with_reducible repeat (first | apply blk_drewN | apply blk_drew | apply blk_alloc)); exact BK348.out) hb)
                   have n2_ := Aside0.mk (blk_below (g := gb353) (o := .cells #[.int .i64 t349, .int .i64 t350, .int .i64 t351] 26 (0, 0)) (by (with_reducible repeat (first | apply blk_drewN | apply blk_drew | apply blk_alloc)); exact BK353.out) hb)
                   have n3_ := Aside0.mk (blk_below (g := gb358) (o := .cells #[.int .i64 t354, .int .i64 t355, .int .i64 t356] 26 (0, 0)) (by (with_reducible repeat (first | apply blk_drewN | apply blk_drew | apply blk_alloc)); exact BK358.out) hb)
                   have n4_ := Aside0.mk (blk_below (g := gb359) (o := .cells #[.int .i64 x360000_2, .int .i64 x360001_2, .int .i64 x360002_2] 26 (0, 0)) (by (with_reducible repeat (first | apply blk_drewN | apply blk_drew | apply blk_alloc)); exact BK359.out) hb)
                   have n5_ := Aside0.mk (below_step (by repeat (first | (with_reducible first | exact HB.out | apply below_alloc | apply pw_below_drewN | apply below_drew1 | refine below_set ?_ GE348.out | refine below_set ?_ GE353.out | refine below_set ?_ GE358.out | refine below_set ?_ GE359.out) | exact HB.out)) hb)
                   clear HO_4
                   clear BK348
                   clear BK353
                   clear BK358
                   clear BK359
                   clear HB
                   have HO_4 := n0_
                   have BK348 := n1_
                   have BK353 := n2_
                   have BK358 := n3_
                   have BK359 := n4_
                   have HB := n5_
                   clear n0_ n1_ n2_ n3_ n4_ n5_
                   (try clear hb)
                   (try clear hb2)
                   (try clear hk)
                   (try clear hi)
                   refine hK.out _ _ ⟨(blk_cell BK359.out 0).trans rfl, (blk_cell BK359.out 1).trans rfl, (blk_cell BK359.out 2).trans rfl, HS3_, HS4_, HS5_, HS6_, HS7_, HS8_⟩ (fun hHeld => ?_)
                   clear hK K
                   refine norm_ (a' := ?_) ?_ ?_
                   rotate_left
                   · show Act.put _ (some 72) _ = _
                     simp only [Act.put, List.setIfInBounds_toArray, List.set_cons_zero, List.set_cons_succ, i64_w, i32_w]
                     rfl
                   refine pure_ (i := 12) (N := some 60) (v := ?_) (a' := ?_) #[true, true, true, true, true, true, true, true, true, true, true, true, true, false, false, false, false, false] rfl rfl (any_of HT_.out (by kernel_rfl)) (fun _ _ _ h => h) (Or.inl ⟨by rfl, ?_⟩) ?_ ?_
                   rotate_left
                   · intro w'
                     go_simp
                     with_reducible rfl
                   rotate_left
                   · simp only [Act.put, List.setIfInBounds_toArray, List.set_cons_zero, List.set_cons_succ, i64_w, i32_w]
                     rfl
                   refine pure_ (i := 13) (N := some 73) (v := ?_) (a' := ?_) #[true, true, true, true, true, true, true, true, true, true, true, true, true, true, false, false, false, false] rfl rfl (any_of HT_.out (by kernel_rfl)) (fun _ _ _ h => h) (Or.inl ⟨by rfl, ?_⟩) ?_ ?_
                   rotate_left
                   · intro w'
                     go_simp
                     with_reducible rfl
                   rotate_left
                   · simp only [Act.put, List.setIfInBounds_toArray, List.set_cons_zero, List.set_cons_succ, i64_w, i32_w]
                     rfl
                   refine pure_ (i := 14) (N := some 74) (v := ?_) (a' := ?_) #[true, true, true, true, true, true, true, true, true, true, true, true, true, true, true, false, false, false] rfl rfl (any_of HT_.out (by kernel_rfl)) (fun _ _ _ h => h) (Or.inl ⟨by rfl, ?_⟩) ?_ ?_
                   rotate_left
                   · intro w'
                     go_simp
                     with_reducible rfl
                   rotate_left
                   · simp only [Act.put, List.setIfInBounds_toArray, List.set_cons_zero, List.set_cons_succ, i64_w, i32_w]
                     rfl
                   refine one_ (i := 15) (N := some 11) #[true, true, true, true, true, true, true, true, true, true, true, true, true, true, true, true, false, false] rfl rfl (one_of HT_.out (by kernel_rfl)) (by decide) (fun K hK => ?_)
                   refine box_step ?hg (N := 11) ?hd (cs := #[.int .i64 0, .int .i64 0, .int .i64 0]) (t := 26) ?hr ?_; (case hd => rfl); (case hg => rfl); (case hr => first | (go_simp; done) | (go_simp; rfl))
                   intro gb366 hg w80 hbox hb
                   have HS3_ := (hb.cell (World.block_lt_of_cell? _ _ (hHeld.2.2.2.1))).trans (hHeld.2.2.2.1)
                   have HS4_ := (hb.cell (World.block_lt_of_cell? _ _ (hHeld.2.2.2.2.1))).trans (hHeld.2.2.2.2.1)
                   have HS5_ := (hb.cell (World.block_lt_of_cell? _ _ (hHeld.2.2.2.2.2.1))).trans (hHeld.2.2.2.2.2.1)
                   have HS6_ := (hb.cell (World.block_lt_of_cell? _ _ (hHeld.2.2.2.2.2.2.1))).trans (hHeld.2.2.2.2.2.2.1)
                   have HS7_ := (hb.cell (World.block_lt_of_cell? _ _ (hHeld.2.2.2.2.2.2.2.1))).trans (hHeld.2.2.2.2.2.2.2.1)
                   have HS8_ := (hb.cell (World.block_lt_of_cell? _ _ (hHeld.2.2.2.2.2.2.2.2))).trans (hHeld.2.2.2.2.2.2.2.2)
                   have n0_ := Aside0.mk (Kd.R_below (by (with_reducible repeat (first | apply Kd.R_alloc | apply Kd.R_drewN | apply Kd.R_drew)); exact HO_4.out) hb)
                   have n1_ := Aside0.mk (blk_below (g := gb348) (o := .cells #[.int .i64 t342, .int .i64 t343, .int .i64 t344] 26 (0, 0)) (by (with_reducible repeat (first | apply blk_drewN | apply blk_drew | apply blk_alloc)); exact BK348.out) hb)
                   have n2_ := Aside0.mk (blk_below (g := gb353) (o := .cells #[.int .i64 t349, .int .i64 t350, .int .i64 t351] 26 (0, 0)) (by (with_reducible repeat (first | apply blk_drewN | apply blk_drew | apply blk_alloc)); exact BK353.out) hb)
                   have n3_ := Aside0.mk (blk_below (g := gb358) (o := .cells #[.int .i64 t354, .int .i64 t355, .int .i64 t356] 26 (0, 0)) (by (with_reducible repeat (first | apply blk_drewN | apply blk_drew | apply blk_alloc)); exact BK358.out) hb)
                   have n4_ := Aside0.mk (blk_below (g := gb359) (o := .cells #[.int .i64 x360000_2, .int .i64 x360001_2, .int .i64 x360002_2] 26 (0, 0)) (by (with_reducible repeat (first | apply blk_drewN | apply blk_drew | apply blk_alloc)); exact BK359.out) hb)
                   have n5_ := Aside0.mk (below_step (by repeat (first | (with_reducible first | exact HB.out | apply below_alloc | apply pw_below_drewN | apply below_drew1 | refine below_set ?_ GE348.out | refine below_set ?_ GE353.out | refine below_set ?_ GE358.out | refine below_set ?_ GE359.out) | exact HB.out)) hb)
                   have n6_ := Aside0.mk (hbox)
                   have n7_ := Aside0.mk ((by rw [hg]; exact (below_size (by repeat (first | (with_reducible first | exact HB.out | apply below_alloc | apply pw_below_drewN | apply below_drew1 | refine below_set ?_ GE348.out | refine below_set ?_ GE353.out | refine below_set ?_ GE358.out | refine below_set ?_ GE359.out) | exact HB.out))) : w.heap.size ≤ gb366))
                   have n8_ := Aside0.mk ((by rw [hg]; exact (below_size (by repeat (first | (with_reducible first | exact HB.out | apply below_alloc | apply pw_below_drewN | apply below_drew1 | refine below_set ?_ GE348.out | refine below_set ?_ GE353.out | refine below_set ?_ GE358.out | refine below_set ?_ GE359.out) | exact HB.out))) : w.heap.size ≤ gb366))
                   have n9_ := Aside0.mk ((by rw [hg]; exact Nat.ne_of_lt (blk_lt (g := gb348) (o := .cells #[.int .i64 t342, .int .i64 t343, .int .i64 t344] 26 (0, 0)) (by (with_reducible repeat (first | apply blk_drewN | apply blk_drew | apply blk_alloc)); exact BK348.out)) : gb348 ≠ gb366))
                   have n10_ := Aside0.mk ((by rw [hg]; exact Nat.ne_of_gt (blk_lt (g := gb348) (o := .cells #[.int .i64 t342, .int .i64 t343, .int .i64 t344] 26 (0, 0)) (by (with_reducible repeat (first | apply blk_drewN | apply blk_drew | apply blk_alloc)); exact BK348.out)) : gb366 ≠ gb348))
                   have n11_ := Aside0.mk ((by rw [hg]; exact Nat.ne_of_lt (blk_lt (g := gb353) (o := .cells #[.int .i64 t349, .int .i64 t350, .int .i64 t351] 26 (0, 0)) (by (with_reducible repeat (first | apply blk_drewN | apply blk_drew | apply blk_alloc)); exact BK353.out)) : gb353 ≠ gb366))
                   have n12_ := Aside0.mk ((by rw [hg]; exact Nat.ne_of_gt (blk_lt (g := gb353) (o := .cells #[.int .i64 t349, .int .i64 t350, .int .i64 t351] 26 (0, 0)) (by (with_reducible repeat (first | apply blk_drewN | apply blk_drew | apply blk_alloc)); exact BK353.out)) : gb366 ≠ gb353))
                   have n13_ := Aside0.mk ((by rw [hg]; exact Nat.ne_of_lt (blk_lt (g := gb358) (o := .cells #[.int .i64 t354, .int .i64 t355, .int .i64 t356] 26 (0, 0)) (by (with_reducible repeat (first | apply blk_drewN | apply blk_drew | apply blk_alloc)); exact BK358.out)) : gb358 ≠ gb366))
                   have n14_ := Aside0.mk ((by rw [hg]; exact Nat.ne_of_gt (blk_lt (g := gb358) (o := .cells #[.int .i64 t354, .int .i64 t355, .int .i64 t356] 26 (0, 0)) (by (with_reducible repeat (first | apply blk_drewN | apply blk_drew | apply blk_alloc)); exact BK358.out)) : gb366 ≠ gb358))
                   have n15_ := Aside0.mk ((by rw [hg]; exact Nat.ne_of_lt (blk_lt (g := gb359) (o := .cells #[.int .i64 x360000_2, .int .i64 x360001_2, .int .i64 x360002_2] 26 (0, 0)) (by (with_reducible repeat (first | apply blk_drewN | apply blk_drew | apply blk_alloc)); exact BK359.out)) : gb359 ≠ gb366))
                   have n16_ := Aside0.mk ((by rw [hg]; exact Nat.ne_of_gt (blk_lt (g := gb359) (o := .cells #[.int .i64 x360000_2, .int .i64 x360001_2, .int .i64 x360002_2] 26 (0, 0)) (by (with_reducible repeat (first | apply blk_drewN | apply blk_drew | apply blk_alloc)); exact BK359.out)) : gb366 ≠ gb359))
                   clear HO_4
                   clear BK348
                   clear BK353
                   clear BK358
                   clear BK359
                   clear HB
                   have HO_4 := n0_
                   have BK348 := n1_
                   have BK353 := n2_
                   have BK358 := n3_
                   have BK359 := n4_
                   have HB := n5_
                   have BK366 := n6_
                   have GW366 := n7_
                   have GE366 := n8_
                   have NB348_366 := n9_
                   have NB366_348 := n10_
                   have NB353_366 := n11_
                   have NB366_353 := n12_
                   have NB358_366 := n13_
                   have NB366_358 := n14_
                   have NB359_366 := n15_
                   have NB366_359 := n16_
                   clear n0_ n1_ n2_ n3_ n4_ n5_ n6_ n7_ n8_ n9_ n10_ n11_ n12_ n13_ n14_ n15_ n16_
                   clear hb hbox hg
                   refine hK.out _ _ ⟨(blk_cell BK359.out 0).trans rfl, (blk_cell BK359.out 1).trans rfl, (blk_cell BK359.out 2).trans rfl, HS3_, HS4_, HS5_, HS6_, HS7_, HS8_⟩ (fun hHeld => ?_)
                   clear hK K
                   refine norm_ (a' := ?_) ?_ ?_
                   rotate_left
                   · show Act.put _ (some 11) _ = _
                     simp only [Act.put, List.setIfInBounds_toArray, List.set_cons_zero, List.set_cons_succ, i64_w, i32_w]
                     rfl
                   exact norm_ (by simp only [putAll, Act.put, List.setIfInBounds_toArray, List.set_cons_zero, List.set_cons_succ]) (hCont (gb366) _ ⟨hHeld, (by (with_reducible repeat (first | apply Kd.R_alloc | apply Kd.R_drewN | apply Kd.R_drew)); exact HO_4.out), (by (with_reducible repeat (first | apply blk_drewN | apply blk_drew | apply blk_alloc)); exact BK348.out), (by (with_reducible repeat (first | apply blk_drewN | apply blk_drew | apply blk_alloc)); exact BK353.out), (by (with_reducible repeat (first | apply blk_drewN | apply blk_drew | apply blk_alloc)); exact BK358.out), (by (with_reducible repeat (first | apply blk_drewN | apply blk_drew | apply blk_alloc)); exact BK359.out), (by (with_reducible repeat (first | apply blk_drewN | apply blk_drew | apply blk_alloc)); exact BK366.out), GW366.out, GE366.out, NB348_366.out, NB366_348.out, NB353_366.out, NB366_353.out, NB358_366.out, NB366_358.out, NB359_366.out, NB366_359.out, (by repeat (first | (with_reducible first | exact HB.out | apply below_alloc | apply pw_below_drewN | apply below_drew1 | refine below_set ?_ GE348.out | refine below_set ?_ GE353.out | refine below_set ?_ GE358.out | refine below_set ?_ GE359.out | refine below_set ?_ GE366.out) | exact HB.out))⟩)
                 · skip
                   refine box_step ?hg (N := 11) ?hd (cs := #[.int .i64 0, .int .i64 0, .int .i64 0]) (t := 26) ?hr ?_; (case hd => rfl); (case hg => rfl); (case hr => first | (go_simp; done) | (go_simp; rfl))
                   intro gb366 hg w79 hbox hb
                   have HS3_ := (hb.cell (World.block_lt_of_cell? _ _ (hHeld.2.2.2.1))).trans (hHeld.2.2.2.1)
                   have HS4_ := (hb.cell (World.block_lt_of_cell? _ _ (hHeld.2.2.2.2.1))).trans (hHeld.2.2.2.2.1)
                   have HS5_ := (hb.cell (World.block_lt_of_cell? _ _ (hHeld.2.2.2.2.2.1))).trans (hHeld.2.2.2.2.2.1)
                   have HS6_ := (hb.cell (World.block_lt_of_cell? _ _ (hHeld.2.2.2.2.2.2.1))).trans (hHeld.2.2.2.2.2.2.1)
                   have HS7_ := (hb.cell (World.block_lt_of_cell? _ _ (hHeld.2.2.2.2.2.2.2.1))).trans (hHeld.2.2.2.2.2.2.2.1)
                   have HS8_ := (hb.cell (World.block_lt_of_cell? _ _ (hHeld.2.2.2.2.2.2.2.2))).trans (hHeld.2.2.2.2.2.2.2.2)
                   have n0_ := Aside0.mk (Kd.R_below (by (with_reducible repeat (first | apply Kd.R_alloc | apply Kd.R_drewN | apply Kd.R_drew)); exact HO_4.out) hb)
                   have n1_ := Aside0.mk (blk_below (g := gb348) (o := .cells #[.int .i64 t342, .int .i64 t343, .int .i64 t344] 26 (0, 0)) (by (with_reducible repeat (first | apply blk_drewN | apply blk_drew | apply blk_alloc)); exact BK348.out) hb)
                   have n2_ := Aside0.mk (blk_below (g := gb353) (o := .cells #[.int .i64 t349, .int .i64 t350, .int .i64 t351] 26 (0, 0)) (by (with_reducible repeat (first | apply blk_drewN | apply blk_drew | apply blk_alloc)); exact BK353.out) hb)
                   have n3_ := Aside0.mk (blk_below (g := gb358) (o := .cells #[.int .i64 t354, .int .i64 t355, .int .i64 t356] 26 (0, 0)) (by (with_reducible repeat (first | apply blk_drewN | apply blk_drew | apply blk_alloc)); exact BK358.out) hb)
                   have n4_ := Aside0.mk (blk_below (g := gb359) (o := .cells #[.int .i64 x360000_2, .int .i64 x360001_2, .int .i64 x360002_2] 26 (0, 0)) (by (with_reducible repeat (first | apply blk_drewN | apply blk_drew | apply blk_alloc)); exact BK359.out) hb)
                   have n5_ := Aside0.mk (below_step (by repeat (first | (with_reducible first | exact HB.out | apply below_alloc | apply pw_below_drewN | apply below_drew1 | refine below_set ?_ GE348.out | refine below_set ?_ GE353.out | refine below_set ?_ GE358.out | refine below_set ?_ GE359.out) | exact HB.out)) hb)
                   have n6_ := Aside0.mk (hbox)
                   have n7_ := Aside0.mk ((by rw [hg]; exact (below_size (by repeat (first | (with_reducible first | exact HB.out | apply below_alloc | apply pw_below_drewN | apply below_drew1 | refine below_set ?_ GE348.out | refine below_set ?_ GE353.out | refine below_set ?_ GE358.out | refine below_set ?_ GE359.out) | exact HB.out))) : w.heap.size ≤ gb366))
                   have n8_ := Aside0.mk ((by rw [hg]; exact (below_size (by repeat (first | (with_reducible first | exact HB.out | apply below_alloc | apply pw_below_drewN | apply below_drew1 | refine below_set ?_ GE348.out | refine below_set ?_ GE353.out | refine below_set ?_ GE358.out | refine below_set ?_ GE359.out) | exact HB.out))) : w.heap.size ≤ gb366))
                   have n9_ := Aside0.mk ((by rw [hg]; exact Nat.ne_of_lt (blk_lt (g := gb348) (o := .cells #[.int .i64 t342, .int .i64 t343, .int .i64 t344] 26 (0, 0)) (by (with_reducible repeat (first | apply blk_drewN | apply blk_drew | apply blk_alloc)); exact BK348.out)) : gb348 ≠ gb366))
                   have n10_ := Aside0.mk ((by rw [hg]; exact Nat.ne_of_gt (blk_lt (g := gb348) (o := .cells #[.int .i64 t342, .int .i64 t343, .int .i64 t344] 26 (0, 0)) (by (with_reducible repeat (first | apply blk_drewN | apply blk_drew | apply blk_alloc)); exact BK348.out)) : gb366 ≠ gb348))
                   have n11_ := Aside0.mk ((by rw [hg]; exact Nat.ne_of_lt (blk_lt (g := gb353) (o := .cells #[.int .i64 t349, .int .i64 t350, .int .i64 t351] 26 (0, 0)) (by (with_reducible repeat (first | apply blk_drewN | apply blk_drew | apply blk_alloc)); exact BK353.out)) : gb353 ≠ gb366))
                   have n12_ := Aside0.mk ((by rw [hg]; exact Nat.ne_of_gt (blk_lt (g := gb353) (o := .cells #[.int .i64 t349, .int .i64 t350, .int .i64 t351] 26 (0, 0)) (by (with_reducible repeat (first | apply blk_drewN | apply blk_drew | apply blk_alloc)); exact BK353.out)) : gb366 ≠ gb353))
                   have n13_ := Aside0.mk ((by rw [hg]; exact Nat.ne_of_lt (blk_lt (g := gb358) (o := .cells #[.int .i64 t354, .int .i64 t355, .int .i64 t356] 26 (0, 0)) (by (with_reducible repeat (first | apply blk_drewN | apply blk_drew | apply blk_alloc)); exact BK358.out)) : gb358 ≠ gb366))
                   have n14_ := Aside0.mk ((by rw [hg]; exact Nat.ne_of_gt (blk_lt (g := gb358) (o := .cells #[.int .i64 t354, .int .i64 t355, .int .i64 t356] 26 (0, 0)) (by (with_reducible repeat (first | apply blk_drewN | apply blk_drew | apply blk_alloc)); exact BK358.out)) : gb366 ≠ gb358))
                   have n15_ := Aside0.mk ((by rw [hg]; exact Nat.ne_of_lt (blk_lt (g := gb359) (o := .cells #[.int .i64 x360000_2, .int .i64 x360001_2, .int .i64 x360002_2] 26 (0, 0)) (by (with_reducible repeat (first | apply blk_drewN | apply blk_drew | apply blk_alloc)); exact BK359.out)) : gb359 ≠ gb366))
                   have n16_ := Aside0.mk ((by rw [hg]; exact Nat.ne_of_gt (blk_lt (g := gb359) (o := .cells #[.int .i64 x360000_2, .int .i64 x360001_2, .int .i64 x360002_2] 26 (0, 0)) (by (with_reducible repeat (first | apply blk_drewN | apply blk_drew | apply blk_alloc)); exact BK359.out)) : gb366 ≠ gb359))
                   clear HO_4
                   clear BK348
                   clear BK353
                   clear BK358
                   clear BK359
                   clear HB
                   have HO_4 := n0_
                   have BK348 := n1_
                   have BK353 := n2_
                   have BK358 := n3_
                   have BK359 := n4_
                   have HB := n5_
                   have BK366 := n6_
                   have GW366 := n7_
                   have GE366 := n8_
                   have NB348_366 := n9_
                   have NB366_348 := n10_
                   have NB353_366 := n11_
                   have NB366_353 := n12_
                   have NB358_366 := n13_
                   have NB366_358 := n14_
                   have NB359_366 := n15_
                   have NB366_359 := n16_
                   clear n0_ n1_ n2_ n3_ n4_ n5_ n6_ n7_ n8_ n9_ n10_ n11_ n12_ n13_ n14_ n15_ n16_
                   clear hb hbox hg
                   refine hK.out _ _ ⟨(blk_cell BK359.out 0).trans rfl, (blk_cell BK359.out 1).trans rfl, (blk_cell BK359.out 2).trans rfl, HS3_, HS4_, HS5_, HS6_, HS7_, HS8_⟩ (fun hHeld => ?_)
                   clear hK K
                   refine norm_ (a' := ?_) ?_ ?_
                   rotate_left
                   · show Act.put _ (some 11) _ = _
                     simp only [Act.put, List.setIfInBounds_toArray, List.set_cons_zero, List.set_cons_succ, i64_w, i32_w]
                     rfl
                   refine one_ (i := 11) (N := some 72) #[true, true, true, true, true, true, true, true, true, true, true, true, false, false, false, true, false, false] rfl rfl (one_of HT_.out (by kernel_rfl)) (by decide) (fun K hK => ?_)
                   refine goes_ Try.func15 (by kernel_rfl) rfl #[.agg #[.int .i64 x360000_2, .int .i64 x360001_2, .int .i64 x360002_2], .int .i64 ((rd_T40 t345 x10_2).f2), .int .i64 ((rd_T40 t345 x10_2).f0)] (by rfl) rfl rfl (by (try simp only [List.map_toArray, List.map_cons, List.map_nil]); first | done | rfl | (simp only [List.length_drop, List.length_take]; rfl)) ?_
                   with_reducible refine (impl_StepClock.calls k2 x360000_2 x360001_2 x360002_2 ((rd_T40 t345 x10_2).f2) ((rd_T40 t345 x10_2).f0) t362 t363 t364 false _ A60.out).mono ?_
                   rintro e w80 ⟨rfl, hb⟩
                   have HS3_ := (hb.cell (World.block_lt_of_cell? _ _ (hHeld.2.2.2.1))).trans (hHeld.2.2.2.1)
                   have HS4_ := (hb.cell (World.block_lt_of_cell? _ _ (hHeld.2.2.2.2.1))).trans (hHeld.2.2.2.2.1)
                   have HS5_ := (hb.cell (World.block_lt_of_cell? _ _ (hHeld.2.2.2.2.2.1))).trans (hHeld.2.2.2.2.2.1)
                   have HS6_ := (hb.cell (World.block_lt_of_cell? _ _ (hHeld.2.2.2.2.2.2.1))).trans (hHeld.2.2.2.2.2.2.1)
                   have HS7_ := (hb.cell (World.block_lt_of_cell? _ _ (hHeld.2.2.2.2.2.2.2.1))).trans (hHeld.2.2.2.2.2.2.2.1)
                   have HS8_ := (hb.cell (World.block_lt_of_cell? _ _ (hHeld.2.2.2.2.2.2.2.2))).trans (hHeld.2.2.2.2.2.2.2.2)
                   refine ⟨_, rfl, ?_⟩
                   have n0_ := Aside0.mk (Kd.R_below (by (with_reducible repeat (first | apply Kd.R_alloc | apply Kd.R_drewN | apply Kd.R_drew)); exact HO_4.out) hb)
                   have n1_ := Aside0.mk (blk_below (g := gb348) (o := .cells #[.int .i64 t342, .int .i64 t343, .int .i64 t344] 26 (0, 0)) (by (with_reducible repeat (first | apply blk_drewN | apply blk_drew | apply blk_alloc)); exact BK348.out) hb)
                   have n2_ := Aside0.mk (blk_below (g := gb353) (o := .cells #[.int .i64 t349, .int .i64 t350, .int .i64 t351] 26 (0, 0)) (by (with_reducible repeat (first | apply blk_drewN | apply blk_drew | apply blk_alloc)); exact BK353.out) hb)
                   have n3_ := Aside0.mk (blk_below (g := gb358) (o := .cells #[.int .i64 t354, .int .i64 t355, .int .i64 t356] 26 (0, 0)) (by (with_reducible repeat (first | apply blk_drewN | apply blk_drew | apply blk_alloc)); exact BK358.out) hb)
                   have n4_ := Aside0.mk (blk_below (g := gb359) (o := .cells #[.int .i64 x360000_2, .int .i64 x360001_2, .int .i64 x360002_2] 26 (0, 0)) (by (with_reducible repeat (first | apply blk_drewN | apply blk_drew | apply blk_alloc)); exact BK359.out) hb)
                   have n5_ := Aside0.mk (blk_below (g := gb366) (o := .cells #[.int .i64 0, .int .i64 0, .int .i64 0] 26 (0, 0)) (by (with_reducible repeat (first | apply blk_drewN | apply blk_drew | apply blk_alloc)); exact BK366.out) hb)
                   have n6_ := Aside0.mk (below_step (by repeat (first | (with_reducible first | exact HB.out | apply below_alloc | apply pw_below_drewN | apply below_drew1 | refine below_set ?_ GE348.out | refine below_set ?_ GE353.out | refine below_set ?_ GE358.out | refine below_set ?_ GE359.out | refine below_set ?_ GE366.out) | exact HB.out)) hb)
                   clear HO_4
                   clear BK348
                   clear BK353
                   clear BK358
                   clear BK359
                   clear BK366
                   clear HB
                   have HO_4 := n0_
                   have BK348 := n1_
                   have BK353 := n2_
                   have BK358 := n3_
                   have BK359 := n4_
                   have BK366 := n5_
                   have HB := n6_
                   clear n0_ n1_ n2_ n3_ n4_ n5_ n6_
                   (try clear hb)
                   (try clear hb2)
                   (try clear hk)
                   (try clear hi)
                   refine hK.out _ _ ⟨(blk_cell BK359.out 0).trans rfl, (blk_cell BK359.out 1).trans rfl, (blk_cell BK359.out 2).trans rfl, HS3_, HS4_, HS5_, HS6_, HS7_, HS8_⟩ (fun hHeld => ?_)
                   clear hK K
                   refine norm_ (a' := ?_) ?_ ?_
                   rotate_left
                   · show Act.put _ (some 72) _ = _
                     simp only [Act.put, List.setIfInBounds_toArray, List.set_cons_zero, List.set_cons_succ, i64_w, i32_w]
                     rfl
                   refine pure_ (i := 12) (N := some 60) (v := ?_) (a' := ?_) #[true, true, true, true, true, true, true, true, true, true, true, true, true, false, false, true, false, false] rfl rfl (any_of HT_.out (by kernel_rfl)) (fun _ _ _ h => h) (Or.inl ⟨by rfl, ?_⟩) ?_ ?_
                   rotate_left
                   · intro w'
                     go_simp
                     with_reducible rfl
                   rotate_left
                   · simp only [Act.put, List.setIfInBounds_toArray, List.set_cons_zero, List.set_cons_succ, i64_w, i32_w]
                     rfl
                   refine pure_ (i := 13) (N := some 73) (v := ?_) (a' := ?_) #[true, true, true, true, true, true, true, true, true, true, true, true, true, true, false, true, false, false] rfl rfl (any_of HT_.out (by kernel_rfl)) (fun _ _ _ h => h) (Or.inl ⟨by rfl, ?_⟩) ?_ ?_
                   rotate_left
                   · intro w'
                     go_simp
                     with_reducible rfl
                   rotate_left
                   · simp only [Act.put, List.setIfInBounds_toArray, List.set_cons_zero, List.set_cons_succ, i64_w, i32_w]
                     rfl
                   refine pure_ (i := 14) (N := some 74) (v := ?_) (a' := ?_) #[true, true, true, true, true, true, true, true, true, true, true, true, true, true, true, true, false, false] rfl rfl (any_of HT_.out (by kernel_rfl)) (fun _ _ _ h => h) (Or.inl ⟨by rfl, ?_⟩) ?_ ?_
                   rotate_left
                   · intro w'
                     go_simp
                     with_reducible rfl
                   rotate_left
                   · simp only [Act.put, List.setIfInBounds_toArray, List.set_cons_zero, List.set_cons_succ, i64_w, i32_w]
                     rfl
                   exact norm_ (by simp only [putAll, Act.put, List.setIfInBounds_toArray, List.set_cons_zero, List.set_cons_succ]) (hCont (gb366) _ ⟨hHeld, (by (with_reducible repeat (first | apply Kd.R_alloc | apply Kd.R_drewN | apply Kd.R_drew)); exact HO_4.out), (by (with_reducible repeat (first | apply blk_drewN | apply blk_drew | apply blk_alloc)); exact BK348.out), (by (with_reducible repeat (first | apply blk_drewN | apply blk_drew | apply blk_alloc)); exact BK353.out), (by (with_reducible repeat (first | apply blk_drewN | apply blk_drew | apply blk_alloc)); exact BK358.out), (by (with_reducible repeat (first | apply blk_drewN | apply blk_drew | apply blk_alloc)); exact BK359.out), (by (with_reducible repeat (first | apply blk_drewN | apply blk_drew | apply blk_alloc)); exact BK366.out), GW366.out, GE366.out, NB348_366.out, NB366_348.out, NB353_366.out, NB366_353.out, NB358_366.out, NB366_358.out, NB359_366.out, NB366_359.out, (by repeat (first | (with_reducible first | exact HB.out | apply below_alloc | apply pw_below_drewN | apply below_drew1 | refine below_set ?_ GE348.out | refine below_set ?_ GE353.out | refine below_set ?_ GE358.out | refine below_set ?_ GE359.out | refine below_set ?_ GE366.out) | exact HB.out))⟩)
               rintro gb366 w81 ⟨hS_, h0_, h1_, h2_, h3_, h4_, h5_, h6_, h7_, h8_, h9_, h10_, h11_, h12_, h13_, h14_, h15_, h16_⟩
               have n0_ : Aside0 (Kd.R k40 40 w81 w.heap.size (fun _ => True) (.slice (some ad360) t345.length co10) t345) := ⟨h0_⟩
               have n1_ : Aside0 (w81.heap[gb348]? = some (.cells #[.int .i64 t342, .int .i64 t343, .int .i64 t344] 26 (0, 0))) := ⟨h1_⟩
               have n2_ : Aside0 (w81.heap[gb353]? = some (.cells #[.int .i64 t349, .int .i64 t350, .int .i64 t351] 26 (0, 0))) := ⟨h2_⟩
               have n3_ : Aside0 (w81.heap[gb358]? = some (.cells #[.int .i64 t354, .int .i64 t355, .int .i64 t356] 26 (0, 0))) := ⟨h3_⟩
               have n4_ : Aside0 (w81.heap[gb359]? = some (.cells #[.int .i64 x360000_2, .int .i64 x360001_2, .int .i64 x360002_2] 26 (0, 0))) := ⟨h4_⟩
               have n5_ : Aside0 (w81.heap[gb366]? = some (.cells #[.int .i64 0, .int .i64 0, .int .i64 0] 26 (0, 0))) := ⟨h5_⟩
               have n6_ : Aside0 (w.heap.size ≤ gb366) := ⟨h6_⟩
               have n7_ : Aside0 (w.heap.size ≤ gb366) := ⟨h7_⟩
               have n8_ : Aside0 (gb348 ≠ gb366) := ⟨h8_⟩
               have n9_ : Aside0 (gb366 ≠ gb348) := ⟨h9_⟩
               have n10_ : Aside0 (gb353 ≠ gb366) := ⟨h10_⟩
               have n11_ : Aside0 (gb366 ≠ gb353) := ⟨h11_⟩
               have n12_ : Aside0 (gb358 ≠ gb366) := ⟨h12_⟩
               have n13_ : Aside0 (gb366 ≠ gb358) := ⟨h13_⟩
               have n14_ : Aside0 (gb359 ≠ gb366) := ⟨h14_⟩
               have n15_ : Aside0 (gb366 ≠ gb359) := ⟨h15_⟩
               have n16_ : Aside0 (Below w.heap.size w w81) := ⟨h16_⟩
               clear HO_4
               clear BK348
               clear BK353
               clear BK358
               clear BK359
               clear HB
               clear h0_ h1_ h2_ h3_ h4_ h5_ h6_ h7_ h8_ h9_ h10_ h11_ h12_ h13_ h14_ h15_ h16_
               have HO_4 := n0_
               have BK348 := n1_
               have BK353 := n2_
               have BK358 := n3_
               have BK359 := n4_
               have BK366 := n5_
               have GW366 := n6_
               have GE366 := n7_
               have NB348_366 := n8_
               have NB366_348 := n9_
               have NB353_366 := n10_
               have NB366_353 := n11_
               have NB358_366 := n12_
               have NB366_358 := n13_
               have NB359_366 := n14_
               have NB366_359 := n15_
               have HB := n16_
               clear n0_ n1_ n2_ n3_ n4_ n5_ n6_ n7_ n8_ n9_ n10_ n11_ n12_ n13_ n14_ n15_ n16_
               have hHeld : w81.cell? ⟨gb359, 0, none⟩ = some (.int .i64 x360000_2) ∧ w81.cell? ⟨gb359, 1, none⟩ = some (.int .i64 x360001_2) ∧ w81.cell? ⟨gb359, 2, none⟩ = some (.int .i64 x360002_2) ∧ w81.cell? (ad360.add ((x10_2).toNat * 3)) = some (.int .i64 ((rd_T40 t345 x10_2).f0)) ∧ w81.cell? ⟨(ad360.add ((x10_2).toNat * 3)).block, (ad360.add ((x10_2).toNat * 3)).off + 1, none⟩ = some (.int .i64 ((rd_T40 t345 x10_2).f1)) ∧ w81.cell? ⟨(ad360.add ((x10_2).toNat * 3)).block, (ad360.add ((x10_2).toNat * 3)).off + 2, none⟩ = some (.int .i64 ((rd_T40 t345 x10_2).f2)) ∧ w81.cell? (ad360.add ((x10_2).toNat * 3)) = some (.int .i64 ((rd_T40 t345 x10_2).f0)) ∧ w81.cell? ⟨(ad360.add ((x10_2).toNat * 3)).block, (ad360.add ((x10_2).toNat * 3)).off + 1, none⟩ = some (.int .i64 ((rd_T40 t345 x10_2).f1)) ∧ w81.cell? ⟨(ad360.add ((x10_2).toNat * 3)).block, (ad360.add ((x10_2).toNat * 3)).off + 2, none⟩ = some (.int .i64 ((rd_T40 t345 x10_2).f2)) := hS_
               refine norm_ (a' := ?_) ?_ ?_
               rotate_left
               · simp only [putAll, Act.put, List.setIfInBounds_toArray, List.set_cons_zero, List.set_cons_succ]
                 rfl
               refine one_ (i := 16) (N := none) #[true, true, true, true, true, true, true, true, true, true, true, true, true, true, true, true, true, false] rfl rfl (one_of HT_.out (by kernel_rfl)) (by decide) (fun K hK => ?_)
               have hs82 : w81.cell? ⟨gb366, 0, none⟩ = some (.int .i64 0) := (blk_cell BK366.out 0).trans rfl
               have hfs82 := blk_frozen BK366.out 0
               have hns82_0 := NB348_366.out
               have hns82_1 := NB353_366.out
               have hns82_2 := NB358_366.out
               have hns82_3 := NB359_366.out
               have hms82_0 := NB366_348.out
               have hms82_1 := NB366_353.out
               have hms82_2 := NB366_358.out
               have hms82_3 := NB366_359.out
               have hs83 : w81.cell? ⟨gb366, 1, none⟩ = some (.int .i64 0) := (blk_cell BK366.out 1).trans rfl
               have hfs83 := blk_frozen BK366.out 1
               have hns83_0 := NB348_366.out
               have hns83_1 := NB353_366.out
               have hns83_2 := NB358_366.out
               have hns83_3 := NB359_366.out
               have hms83_0 := NB366_348.out
               have hms83_1 := NB366_353.out
               have hms83_2 := NB366_358.out
               have hms83_3 := NB366_359.out
               have hs84 : w81.cell? ⟨gb366, 2, none⟩ = some (.int .i64 0) := (blk_cell BK366.out 2).trans rfl
               have hfs84 := blk_frozen BK366.out 2
               have hns84_0 := NB348_366.out
               have hns84_1 := NB353_366.out
               have hns84_2 := NB358_366.out
               have hns84_3 := NB359_366.out
               have hms84_0 := NB366_348.out
               have hms84_1 := NB366_353.out
               have hms84_2 := NB366_358.out
               have hms84_3 := NB366_359.out
               refine skip_ (w1 := ?_) (by rfl) rfl ?_ ?_
               rotate_left
               · go_simp
                 rfl
               refine hK.out _ _ ⟨((cell_far (p := ⟨gb366, _, none⟩) NB359_366.out _).trans (((cell_far (p := ⟨gb366, _, none⟩) NB359_366.out _).trans (((cell_far (p := ⟨gb366, _, none⟩) NB359_366.out _).trans (hHeld.1)))))), ((cell_far (p := ⟨gb366, _, none⟩) NB359_366.out _).trans (((cell_far (p := ⟨gb366, _, none⟩) NB359_366.out _).trans (((cell_far (p := ⟨gb366, _, none⟩) NB359_366.out _).trans (hHeld.2.1)))))), ((cell_far (p := ⟨gb366, _, none⟩) NB359_366.out _).trans (((cell_far (p := ⟨gb366, _, none⟩) NB359_366.out _).trans (((cell_far (p := ⟨gb366, _, none⟩) NB359_366.out _).trans (hHeld.2.2.1)))))), ((cell_far (p := ⟨gb366, _, none⟩) (by first | exact Kd.own_blk (Kd.R_ne HO_4.out BK366.out (by decide)) | (rw [add_block]; exact Kd.own_blk (Kd.R_ne HO_4.out BK366.out (by decide))) | (show (Addr.add _ _).block ≠ _; rw [add_block]; exact Kd.own_blk (Kd.R_ne HO_4.out BK366.out (by decide))) | (dsimp only; exact Kd.own_blk (Kd.R_ne HO_4.out BK366.out (by decide)))) _).trans (((cell_far (p := ⟨gb366, _, none⟩) (by first | exact Kd.own_blk (Kd.R_ne HO_4.out BK366.out (by decide)) | (rw [add_block]; exact Kd.own_blk (Kd.R_ne HO_4.out BK366.out (by decide))) | (show (Addr.add _ _).block ≠ _; rw [add_block]; exact Kd.own_blk (Kd.R_ne HO_4.out BK366.out (by decide))) | (dsimp only; exact Kd.own_blk (Kd.R_ne HO_4.out BK366.out (by decide)))) _).trans (((cell_far (p := ⟨gb366, _, none⟩) (by first | exact Kd.own_blk (Kd.R_ne HO_4.out BK366.out (by decide)) | (rw [add_block]; exact Kd.own_blk (Kd.R_ne HO_4.out BK366.out (by decide))) | (show (Addr.add _ _).block ≠ _; rw [add_block]; exact Kd.own_blk (Kd.R_ne HO_4.out BK366.out (by decide))) | (dsimp only; exact Kd.own_blk (Kd.R_ne HO_4.out BK366.out (by decide)))) _).trans (hHeld.2.2.2.1)))))), ((cell_far (p := ⟨gb366, _, none⟩) (by first | exact Kd.own_blk (Kd.R_ne HO_4.out BK366.out (by decide)) | (rw [add_block]; exact Kd.own_blk (Kd.R_ne HO_4.out BK366.out (by decide))) | (show (Addr.add _ _).block ≠ _; rw [add_block]; exact Kd.own_blk (Kd.R_ne HO_4.out BK366.out (by decide))) | (dsimp only; exact Kd.own_blk (Kd.R_ne HO_4.out BK366.out (by decide)))) _).trans (((cell_far (p := ⟨gb366, _, none⟩) (by first | exact Kd.own_blk (Kd.R_ne HO_4.out BK366.out (by decide)) | (rw [add_block]; exact Kd.own_blk (Kd.R_ne HO_4.out BK366.out (by decide))) | (show (Addr.add _ _).block ≠ _; rw [add_block]; exact Kd.own_blk (Kd.R_ne HO_4.out BK366.out (by decide))) | (dsimp only; exact Kd.own_blk (Kd.R_ne HO_4.out BK366.out (by decide)))) _).trans (((cell_far (p := ⟨gb366, _, none⟩) (by first | exact Kd.own_blk (Kd.R_ne HO_4.out BK366.out (by decide)) | (rw [add_block]; exact Kd.own_blk (Kd.R_ne HO_4.out BK366.out (by decide))) | (show (Addr.add _ _).block ≠ _; rw [add_block]; exact Kd.own_blk (Kd.R_ne HO_4.out BK366.out (by decide))) | (dsimp only; exact Kd.own_blk (Kd.R_ne HO_4.out BK366.out (by decide)))) _).trans (hHeld.2.2.2.2.1)))))), ((cell_far (p := ⟨gb366, _, none⟩) (by first | exact Kd.own_blk (Kd.R_ne HO_4.out BK366.out (by decide)) | (rw [add_block]; exact Kd.own_blk (Kd.R_ne HO_4.out BK366.out (by decide))) | (show (Addr.add _ _).block ≠ _; rw [add_block]; exact Kd.own_blk (Kd.R_ne HO_4.out BK366.out (by decide))) | (dsimp only; exact Kd.own_blk (Kd.R_ne HO_4.out BK366.out (by decide)))) _).trans (((cell_far (p := ⟨gb366, _, none⟩) (by first | exact Kd.own_blk (Kd.R_ne HO_4.out BK366.out (by decide)) | (rw [add_block]; exact Kd.own_blk (Kd.R_ne HO_4.out BK366.out (by decide))) | (show (Addr.add _ _).block ≠ _; rw [add_block]; exact Kd.own_blk (Kd.R_ne HO_4.out BK366.out (by decide))) | (dsimp only; exact Kd.own_blk (Kd.R_ne HO_4.out BK366.out (by decide)))) _).trans (((cell_far (p := ⟨gb366, _, none⟩) (by first | exact Kd.own_blk (Kd.R_ne HO_4.out BK366.out (by decide)) | (rw [add_block]; exact Kd.own_blk (Kd.R_ne HO_4.out BK366.out (by decide))) | (show (Addr.add _ _).block ≠ _; rw [add_block]; exact Kd.own_blk (Kd.R_ne HO_4.out BK366.out (by decide))) | (dsimp only; exact Kd.own_blk (Kd.R_ne HO_4.out BK366.out (by decide)))) _).trans (hHeld.2.2.2.2.2.1)))))), ((cell_far (p := ⟨gb366, _, none⟩) (by first | exact Kd.own_blk (Kd.R_ne HO_4.out BK366.out (by decide)) | (rw [add_block]; exact Kd.own_blk (Kd.R_ne HO_4.out BK366.out (by decide))) | (show (Addr.add _ _).block ≠ _; rw [add_block]; exact Kd.own_blk (Kd.R_ne HO_4.out BK366.out (by decide))) | (dsimp only; exact Kd.own_blk (Kd.R_ne HO_4.out BK366.out (by decide)))) _).trans (((cell_far (p := ⟨gb366, _, none⟩) (by first | exact Kd.own_blk (Kd.R_ne HO_4.out BK366.out (by decide)) | (rw [add_block]; exact Kd.own_blk (Kd.R_ne HO_4.out BK366.out (by decide))) | (show (Addr.add _ _).block ≠ _; rw [add_block]; exact Kd.own_blk (Kd.R_ne HO_4.out BK366.out (by decide))) | (dsimp only; exact Kd.own_blk (Kd.R_ne HO_4.out BK366.out (by decide)))) _).trans (((cell_far (p := ⟨gb366, _, none⟩) (by first | exact Kd.own_blk (Kd.R_ne HO_4.out BK366.out (by decide)) | (rw [add_block]; exact Kd.own_blk (Kd.R_ne HO_4.out BK366.out (by decide))) | (show (Addr.add _ _).block ≠ _; rw [add_block]; exact Kd.own_blk (Kd.R_ne HO_4.out BK366.out (by decide))) | (dsimp only; exact Kd.own_blk (Kd.R_ne HO_4.out BK366.out (by decide)))) _).trans (hHeld.2.2.2.2.2.2.1)))))), ((cell_far (p := ⟨gb366, _, none⟩) (by first | exact Kd.own_blk (Kd.R_ne HO_4.out BK366.out (by decide)) | (rw [add_block]; exact Kd.own_blk (Kd.R_ne HO_4.out BK366.out (by decide))) | (show (Addr.add _ _).block ≠ _; rw [add_block]; exact Kd.own_blk (Kd.R_ne HO_4.out BK366.out (by decide))) | (dsimp only; exact Kd.own_blk (Kd.R_ne HO_4.out BK366.out (by decide)))) _).trans (((cell_far (p := ⟨gb366, _, none⟩) (by first | exact Kd.own_blk (Kd.R_ne HO_4.out BK366.out (by decide)) | (rw [add_block]; exact Kd.own_blk (Kd.R_ne HO_4.out BK366.out (by decide))) | (show (Addr.add _ _).block ≠ _; rw [add_block]; exact Kd.own_blk (Kd.R_ne HO_4.out BK366.out (by decide))) | (dsimp only; exact Kd.own_blk (Kd.R_ne HO_4.out BK366.out (by decide)))) _).trans (((cell_far (p := ⟨gb366, _, none⟩) (by first | exact Kd.own_blk (Kd.R_ne HO_4.out BK366.out (by decide)) | (rw [add_block]; exact Kd.own_blk (Kd.R_ne HO_4.out BK366.out (by decide))) | (show (Addr.add _ _).block ≠ _; rw [add_block]; exact Kd.own_blk (Kd.R_ne HO_4.out BK366.out (by decide))) | (dsimp only; exact Kd.own_blk (Kd.R_ne HO_4.out BK366.out (by decide)))) _).trans (hHeld.2.2.2.2.2.2.2.1)))))), ((cell_far (p := ⟨gb366, _, none⟩) (by first | exact Kd.own_blk (Kd.R_ne HO_4.out BK366.out (by decide)) | (rw [add_block]; exact Kd.own_blk (Kd.R_ne HO_4.out BK366.out (by decide))) | (show (Addr.add _ _).block ≠ _; rw [add_block]; exact Kd.own_blk (Kd.R_ne HO_4.out BK366.out (by decide))) | (dsimp only; exact Kd.own_blk (Kd.R_ne HO_4.out BK366.out (by decide)))) _).trans (((cell_far (p := ⟨gb366, _, none⟩) (by first | exact Kd.own_blk (Kd.R_ne HO_4.out BK366.out (by decide)) | (rw [add_block]; exact Kd.own_blk (Kd.R_ne HO_4.out BK366.out (by decide))) | (show (Addr.add _ _).block ≠ _; rw [add_block]; exact Kd.own_blk (Kd.R_ne HO_4.out BK366.out (by decide))) | (dsimp only; exact Kd.own_blk (Kd.R_ne HO_4.out BK366.out (by decide)))) _).trans (((cell_far (p := ⟨gb366, _, none⟩) (by first | exact Kd.own_blk (Kd.R_ne HO_4.out BK366.out (by decide)) | (rw [add_block]; exact Kd.own_blk (Kd.R_ne HO_4.out BK366.out (by decide))) | (show (Addr.add _ _).block ≠ _; rw [add_block]; exact Kd.own_blk (Kd.R_ne HO_4.out BK366.out (by decide))) | (dsimp only; exact Kd.own_blk (Kd.R_ne HO_4.out BK366.out (by decide)))) _).trans (hHeld.2.2.2.2.2.2.2.2))))))⟩ (fun hHeld => ?_)
               clear hK K
               refine pure_ (i := 17) (N := some 12) (v := ?_) (a' := ?_) #[true, true, true, true, true, true, true, true, true, true, true, true, true, true, true, true, true, true] rfl rfl (any_of HT_.out (by kernel_rfl)) (fun _ _ _ h => h) (Or.inl ⟨by rfl, ?_⟩) ?_ ?_
               rotate_left
               · intro w'
                 go_simp
                 with_reducible rfl
               rotate_left
               · simp only [Act.put, List.setIfInBounds_toArray, List.set_cons_zero, List.set_cons_succ, i64_w, i32_w]
                 rfl
               refine done_ (done_of HT_.out (by kernel_rfl)) ?_
               try go_wp2
               go_ret
               exact ⟨by first | rfl | (simp [errW_none, errW_some] <;> rfl) | (simp [*, errW_none, errW_some] <;> rfl), by repeat (first | (with_reducible first | exact HB.out | apply below_alloc | apply pw_below_drewN | apply below_drew1 | refine below_set ?_ GE348.out | refine below_set ?_ GE353.out | refine below_set ?_ GE358.out | refine below_set ?_ GE359.out | refine below_set ?_ GE366.out) | exact HB.out)⟩
           · rw [if_neg c59] at H
             exact absurd H (by simp)
         · rw [if_neg c58] at H
           have c58b0 : decide (x10_2 < (t345.length : Int)) = false := decide_eq_false c58
           clear c58
           by_cases c85 : (x360000_2 == t349 && (x360001_2 == t350 && (x360002_2 == t351))) = true
           · rw [if_pos c85] at H
             have c85b0 : (x360000_2 == t349 && (x360001_2 == t350 && (x360002_2 == t351))) = true := c85
             (try (have c85b1 : decide (x360000_2 = t349 && (x360001_2 == t350 && (x360002_2 == t351))) = true := by simpa using c85))
             (try (have c85b2 : (x360000_2 == t349 && (x360001_2 == t350 && (x360002_2 == t351))) = true := by simpa using c85))
             clear c85
             replace H := Option.bind_eq_some_iff.mp H
             obtain ⟨t367, A860, H⟩ := H
             replace H : (some t367) = some r := H
             have A86 := Aside0.mk A860
             clear A860
             obtain rfl := Option.some.inj H
             have hnb87 := NB359_348.out
             have hnc87 := NB348_359.out
             have hnb88 := NB359_353.out
             have hnc88 := NB353_359.out
             have hnb89 := NB359_358.out
             have hnc89 := NB358_359.out
             have hcz90_0 : wr.cell? ⟨gb359, 0, none⟩ = some (.int .i64 x360000_2) := (blk_cell BK359.out 0).trans rfl
             have hcz90_1 : wr.cell? ⟨gb359, 1, none⟩ = some (.int .i64 x360001_2) := (blk_cell BK359.out 1).trans rfl
             have hcz90_2 : wr.cell? ⟨gb359, 2, none⟩ = some (.int .i64 x360002_2) := (blk_cell BK359.out 2).trans rfl
             have hfz90_0 := blk_frozen BK359.out 0
             have hfz90_1 := blk_frozen BK359.out 1
             have hfz90_2 := blk_frozen BK359.out 2
             have hnb91 := NB353_348.out
             have hnc91 := NB348_353.out
             have hnb92 := NB353_358.out
             have hnc92 := NB358_353.out
             have hcz93_0 : wr.cell? ⟨gb353, 0, none⟩ = some (.int .i64 t349) := (blk_cell BK353.out 0).trans rfl
             have hcz93_1 : wr.cell? ⟨gb353, 1, none⟩ = some (.int .i64 t350) := (blk_cell BK353.out 1).trans rfl
             have hcz93_2 : wr.cell? ⟨gb353, 2, none⟩ = some (.int .i64 t351) := (blk_cell BK353.out 2).trans rfl
             have hfz93_0 := blk_frozen BK353.out 0
             have hfz93_1 := blk_frozen BK353.out 1
             have hfz93_2 := blk_frozen BK353.out 2
             go_wp2_with (first | (go_at_call 16; (with_reducible refine (impl_ValidClock.calls t349 t350 t351 t367 _ A86.out).mono ?_); rintro e w94 ⟨rfl, hb⟩; have n0_ := Aside0.mk (Kd.R_below (by (with_reducible repeat (first | apply Kd.R_alloc | apply Kd.R_drewN | apply Kd.R_drew)); exact HO_4.out) hb); have n1_ := Aside0.mk (blk_below (g := gb348) (o := .cells #[.int .i64 t342, .int .i64 t343, .int .i64 t344] 26 (0, 0)) (by (with_reducible repeat (first | apply blk_drewN | apply blk_drew | apply blk_alloc)); exact BK348.out) hb); have n2_ := Aside0.mk (blk_below (g := gb353) (o := .cells #[.int .i64 t349, .int .i64 t350, .int .i64 t351] 26 (0, 0)) (by (with_reducible repeat (first | apply blk_drewN | apply blk_drew | apply blk_alloc)); exact BK353.out) hb); have n3_ := Aside0.mk (blk_below (g := gb358) (o := .cells #[.int .i64 t354, .int .i64 t355, .int .i64 t356] 26 (0, 0)) (by (with_reducible repeat (first | apply blk_drewN | apply blk_drew | apply blk_alloc)); exact BK358.out) hb); have n4_ := Aside0.mk (blk_below (g := gb359) (o := .cells #[.int .i64 x360000_2, .int .i64 x360001_2, .int .i64 x360002_2] 26 (0, 0)) (by (with_reducible repeat (first | apply blk_drewN | apply blk_drew | apply blk_alloc)); exact BK359.out) hb); have n5_ := Aside0.mk (below_step (by repeat (first | (with_reducible first | exact HB.out | apply below_alloc | apply pw_below_drewN | apply below_drew1 | refine below_set ?_ GE348.out | refine below_set ?_ GE353.out | refine below_set ?_ GE358.out | refine below_set ?_ GE359.out) | exact HB.out)) hb); clear HO_4; clear BK348; clear BK353; clear BK358; clear BK359; clear HB; have HO_4 := n0_; have BK348 := n1_; have BK353 := n2_; have BK358 := n3_; have BK359 := n4_; have HB := n5_; clear n0_ n1_ n2_ n3_ n4_ n5_; (try clear hb); (try clear hb2); (try clear hk); (try clear hi)))
             go_ret
             exact ⟨by first | rfl | (simp [errW_none, errW_some] <;> rfl) | (simp [*, errW_none, errW_some] <;> rfl), by repeat (first | (with_reducible first | exact HB.out | apply below_alloc | apply pw_below_drewN | apply below_drew1 | refine below_set ?_ GE348.out | refine below_set ?_ GE353.out | refine below_set ?_ GE358.out | refine below_set ?_ GE359.out) | exact HB.out)⟩
           · rw [if_neg c85] at H
             have c85b0 : (x360000_2 == t349 && (x360001_2 == t350 && (x360002_2 == t351))) = false := by simpa using c85
             (try (have c85b1 : decide (x360000_2 = t349 && (x360001_2 == t350 && (x360002_2 == t351))) = false := by simpa using c85))
             (try (have c85b2 : (x360000_2 == t349 && (x360001_2 == t350 && (x360002_2 == t351))) = false := by simpa using c85))
             (try (have c85b3 : ¬ (x360000_2 = t349 && (x360001_2 == t350 && (x360002_2 == t351))) := by simpa using c85))
             clear c85
             obtain rfl := Option.some.inj H
             have hnb95 := NB359_348.out
             have hnc95 := NB348_359.out
             have hnb96 := NB359_353.out
             have hnc96 := NB353_359.out
             have hnb97 := NB359_358.out
             have hnc97 := NB358_359.out
             have hcz98_0 : wr.cell? ⟨gb359, 0, none⟩ = some (.int .i64 x360000_2) := (blk_cell BK359.out 0).trans rfl
             have hcz98_1 : wr.cell? ⟨gb359, 1, none⟩ = some (.int .i64 x360001_2) := (blk_cell BK359.out 1).trans rfl
             have hcz98_2 : wr.cell? ⟨gb359, 2, none⟩ = some (.int .i64 x360002_2) := (blk_cell BK359.out 2).trans rfl
             have hfz98_0 := blk_frozen BK359.out 0
             have hfz98_1 := blk_frozen BK359.out 1
             have hfz98_2 := blk_frozen BK359.out 2
             have hnb99 := NB353_348.out
             have hnc99 := NB348_353.out
             have hnb100 := NB353_358.out
             have hnc100 := NB358_353.out
             have hcz101_0 : wr.cell? ⟨gb353, 0, none⟩ = some (.int .i64 t349) := (blk_cell BK353.out 0).trans rfl
             have hcz101_1 : wr.cell? ⟨gb353, 1, none⟩ = some (.int .i64 t350) := (blk_cell BK353.out 1).trans rfl
             have hcz101_2 : wr.cell? ⟨gb353, 2, none⟩ = some (.int .i64 t351) := (blk_cell BK353.out 2).trans rfl
             have hfz101_0 := blk_frozen BK353.out 0
             have hfz101_1 := blk_frozen BK353.out 1
             have hfz101_2 := blk_frozen BK353.out 2
             go_wp2
             go_ret
             exact ⟨by first | rfl | (simp [errW_none, errW_some] <;> rfl) | (simp [*, errW_none, errW_some] <;> rfl), by repeat (first | (with_reducible first | exact HB.out | apply below_alloc | apply pw_below_drewN | apply below_drew1 | refine below_set ?_ GE348.out | refine below_set ?_ GE353.out | refine below_set ?_ GE358.out | refine below_set ?_ GE359.out) | exact HB.out)⟩

/-- THE ONE PURE STATEMENT of laws_FnRunClock: yours. -/
def laws_FnRunClock.Pure : Prop := ∀ (l0 : List Int), l0.length ≤ maxLen → l0.length * 1 ≤ 140737488351232 → (∀ x ∈ l0, (Lit.int .u8 x).wf = true) → ∃ k, laws_FnRunClock.f k l0 = some true
theorem laws_FnRunClock.walk (P : laws_FnRunClock.Pure) (a0 : Option Addr) (len0 cap0 : Nat) (z0 : List Int) (w : World) (w0 : (a0 = none ∧ len0 = 0 ∧ cap0 = 0 ∧ z0 = []) ∨ ∃ x, a0 = some x ∧ len0 ≤ cap0 ∧ cap0 ≤ maxLen ∧ z0.length = cap0 ∧ (∀ i, i < z0.length → w.cell? (x.add i) = some (.int .u8 (z0.getD i 0))) ∧ ∀ n ∈ z0, (Lit.int .u8 n).wf = true) (y0 : len0 * 1 ≤ 140737488351232) :
 Calls Try.prog 4 #[.slice a0 len0 cap0] w fun e w' => e = .returned (.bool true) ∧ Below w.heap.size w w' := by
 obtain ⟨l0, rfl, hr0, hm0, hw0, hc0⟩ := ReadsInt.ofRowC w0
 obtain ⟨k, h⟩ := P l0 hm0 y0 hw0
 refine (laws_FnRunClock.calls k _ _ l0 true w (Kd.C_of_reads (d := (0 : Int)) (h1 := fun _ => rfl) hr0) hc0 h).mono ?_
 rintro e w' ⟨rfl, hd⟩
 exact ⟨rfl, hd⟩

end Go.Proofs.Ytmebkfcoadbakaa.PAll
