/- Contracts of the Go functions that this seat's laws reach: each call returns what the plain function beside it tells, and leaves what was there; no condition but that result. Written by a program of this session (pmore.py, over the kit's print). -/
import Derived.Test.YtmebkfcoadbakaaPAllx0
import Derived.Test.YtmebkfcoadbakaaPAllx1
import Derived.Test.YtmebkfcoadbakaaPAllx4
import Derived.Test.YtmebkfcoadbakaaPAllx7
import Derived.Test.YtmebkfcoadbakaaPAllx10
namespace Go.Proofs.Ytmebkfcoadbakaa.PAll
open Go.RowKit Go.Proofs.YtmebkfcoadbakaaW.PrintWords Go.Proofs.YtmebkfcoadbakaaW.PrintLast Go.Proofs.YtmebkfcoadbakaaW.PrintMore
attribute [local go_sem] max2_int min2_int max_two min_two max_three min_three max_four min_four   -- for this text's walks alone
set_option linter.unusedVariables false
set_option linter.unusedSimpArgs false

attribute [local go_sem high] eqA26
/-! ### laws_FnRunClockParts: function 6 -/
def laws_FnRunClockParts.j0 : Nat → List (S40) → Bool → Bool → Bool → Int → Int → Int → Int → Int → Int → Int → Int → Int → Option (Bool)
 | 0, _, _, _, _, _, _, _, _, _, _, _, _, _ => none
 | k + 1, x4, x6, x8, x45, x398000, x398001, x398002, x403000, x403001, x403002, x408000, x408001, x408002 => if x45 = true then (if (x403000 == x408000 && (x403001 == x408001 && (x403002 == x408002))) = true then (some (x6 == x8)) else (some false)) else (if 0 ≤ (wrap64 ((x4.length : Int) / 2)) then (if (wrap64 ((x4.length : Int) / 2)) ≤ (x4.length : Int) then ((impl_RunClock.f k x398000 x398001 x398002 (x4.take ((wrap64 ((x4.length : Int) / 2)) : Int).toNat)).bind fun bt412 => ((impl_RunClock.f k bt412.1 bt412.2.1 bt412.2.2.1 (x4.drop ((wrap64 ((x4.length : Int) / 2)) : Int).toNat)).bind fun bt421 => (if bt412.2.2.2 = true then (if bt421.2.2.2 = true then (some (bt421.1 == x403000 && (bt421.2.1 == x403001 && (bt421.2.2.1 == x403002)))) else (some false)) else (some false)))) else (none)) else (none))
def laws_FnRunClockParts.f (k : Nat) (l0 : List Int) : Option (Bool) := if (l0.length : Int) > 1048576 then (some true) else ((spec_DrawRunClock.f k l0).bind fun bt391 => ((impl_RunClock.f k bt391.1 bt391.2.1 bt391.2.2.1 bt391.2.2.2).bind fun bt398 => ((spec_RunClock.f k bt391.1 bt391.2.1 bt391.2.2.1 bt391.2.2.2).bind fun bt403 => (if (!(bt398.1 == bt403.1) || (!(bt398.2.1 == bt403.2.1) || (!(bt398.2.2.1 == bt403.2.2.1)))) = true then (laws_FnRunClockParts.j0 k bt391.2.2.2 bt398.2.2.2 bt403.2.2.2 true bt391.1 bt391.2.1 bt391.2.2.1 bt398.1 bt398.2.1 bt398.2.2.1 bt403.1 bt403.2.1 bt403.2.2.1) else (if (bt398.2.2.2 != bt403.2.2.2) = true then (laws_FnRunClockParts.j0 k bt391.2.2.2 bt398.2.2.2 bt403.2.2.2 true bt391.1 bt391.2.1 bt391.2.2.1 bt398.1 bt398.2.1 bt398.2.2.1 bt403.1 bt403.2.1 bt403.2.2.1) else (laws_FnRunClockParts.j0 k bt391.2.2.2 bt398.2.2.2 bt403.2.2.2 (!bt398.2.2.2) bt391.1 bt391.2.1 bt391.2.2.1 bt398.1 bt398.2.1 bt398.2.2.1 bt403.1 bt403.2.1 bt403.2.2.1))))))
theorem bkN : type_of% @blk_drewN := @blk_drewN
theorem bkD : type_of% @blk_drew := @blk_drew
theorem bkA : type_of% @blk_alloc := @blk_alloc
theorem bwA : type_of% @below_alloc := @below_alloc
theorem bwN : type_of% @pw_below_drewN := @pw_below_drewN
theorem bwD : type_of% @below_drew1 := @below_drew1
theorem bwS : type_of% @below_set := @below_set
theorem wBl : type_of% @World.block_lt_of_cell? := @World.block_lt_of_cell?
theorem laws_FnRunClockParts.mono_l : ∀ k, (∀ y0 y1 y2 y3 y4 y5 y6 y7 y8 y9 y10 y11 y12, LeO (laws_FnRunClockParts.j0 k y0 y1 y2 y3 y4 y5 y6 y7 y8 y9 y10 y11 y12) (laws_FnRunClockParts.j0 (k + 1) y0 y1 y2 y3 y4 y5 y6 y7 y8 y9 y10 y11 y12))
 | 0 => fun _ _ _ _ _ _ _ _ _ _ _ _ _ r h => by simp [laws_FnRunClockParts.j0] at h
 | k + 1 => by
  have ih0 := laws_FnRunClockParts.mono_l k
  · intro y0 y1 y2 y3 y4 y5 y6 y7 y8 y9 y10 y11 y12
    unfold laws_FnRunClockParts.j0
    repeat' first
    | (with_reducible exact ih0 _ _ _ _ _ _ _ _ _ _ _ _ _)
    | (with_reducible exact impl_RunClock.mono _ _ _ _ _)
    | (with_reducible exact spec_DrawRunClock.mono _ _)
    | (with_reducible exact spec_RunClock.mono _ _ _ _ _)
    | (with_reducible exact LeO.refl _)
    | (with_reducible exact LeO.none _)
    | (with_reducible refine LeO.ite ?_ ?_)
    | (with_reducible refine LeO.bind ?_ (fun _ => ?_))
    | exact ih0 _ _ _ _ _ _ _ _ _ _ _ _ _
    | exact impl_RunClock.mono _ _ _ _ _
    | exact spec_DrawRunClock.mono _ _
    | exact spec_RunClock.mono _ _ _ _ _
    | exact LeO.none _
    | refine LeO.ite ?_ ?_
    | refine LeO.bind ?_ (fun _ => ?_)
theorem laws_FnRunClockParts.mono : ∀ a0 k, LeO (laws_FnRunClockParts.f k a0) (laws_FnRunClockParts.f (k + 1) a0) := by
 intro a0 k
 have ih0 := laws_FnRunClockParts.mono_l k
 unfold laws_FnRunClockParts.f
 repeat' first
  | (with_reducible exact ih0 _ _ _ _ _ _ _ _ _ _ _ _ _)
  | (with_reducible exact impl_RunClock.mono _ _ _ _ _)
  | (with_reducible exact spec_DrawRunClock.mono _ _)
  | (with_reducible exact spec_RunClock.mono _ _ _ _ _)
  | (with_reducible exact LeO.refl _)
  | (with_reducible exact LeO.none _)
  | (with_reducible refine LeO.ite ?_ ?_)
  | (with_reducible refine LeO.bind ?_ (fun _ => ?_))
  | exact ih0 _ _ _ _ _ _ _ _ _ _ _ _ _
  | exact impl_RunClock.mono _ _ _ _ _
  | exact spec_DrawRunClock.mono _ _
  | exact spec_RunClock.mono _ _ _ _ _
  | exact LeO.none _
  | refine LeO.ite ?_ ?_
  | refine LeO.bind ?_ (fun _ => ?_)
def laws_FnRunClockParts.T9 : Bool × List (List Nat × List Nat) := (true, [([], []), ([], []), ([], []), ([1, 2], [1, 2]), ([0, 3], [0, 3]), ([4], [4]), ([5], [5]), ([5], [5]), ([], []), ([8, 6, 4, 0, 1, 2, 3, 4, 5, 6, 8], [6, 8]), ([7, 9, 0, 1, 2, 3, 4, 5, 6, 7, 8, 9], [7])])
def laws_FnRunClockParts.B9 : List Nat := [0, 0, 0, 6, 15, 31, 63, 63, 0, 383, 1023]
theorem laws_FnRunClockParts.tab9 : rtab .any (opsOf Try.f6 9) = laws_FnRunClockParts.T9 := by kernel_rfl
theorem laws_FnRunClockParts.bits9 : waitsOk laws_FnRunClockParts.T9.2 laws_FnRunClockParts.B9 = true := by kernel_rfl
def laws_FnRunClockParts.T10 : Bool × List (List Nat × List Nat) := (true, [([], []), ([], []), ([], []), ([1, 2], [1, 2]), ([0, 3], [0, 3]), ([4], [4]), ([5], [5]), ([5], [5]), ([], []), ([8, 6, 4, 0, 1, 2, 3, 4, 5, 6, 8], [6, 8]), ([7, 9, 0, 1, 2, 3, 4, 5, 6, 7, 8, 9], [7])])
def laws_FnRunClockParts.B10 : List Nat := [0, 0, 0, 6, 15, 31, 63, 63, 0, 383, 1023]
theorem laws_FnRunClockParts.tab10 : rtab .any (opsOf Try.f6 10) = laws_FnRunClockParts.T10 := by kernel_rfl
theorem laws_FnRunClockParts.bits10 : waitsOk laws_FnRunClockParts.T10.2 laws_FnRunClockParts.B10 = true := by kernel_rfl
set_option maxHeartbeats 8000000 in
set_option maxRecDepth 100000 in
theorem laws_FnRunClockParts.calls (k : Nat) (A0 : Option Addr) (c0 : Nat) (l0 : List Int) (r : Bool) (w : World) (hr0 : Kd.C (Kd.int .u8) w A0 l0.length l0) (hc0 : l0.length ≤ c0) (h : laws_FnRunClockParts.f k l0 = some r) :
 Calls Try.prog 6 #[.slice A0 l0.length c0] w fun e w' => e = .returned (.bool r) ∧ Below w.heap.size w w' := by
 have hu26 := Try.underlying26
 have HR0 := Aside0.mk hr0
 have HC0 := Aside0.mk hc0
 clear hr0 hc0
 have HB := Aside0.mk (Below.refl w.heap.size w)
 have H : (if (l0.length : Int) > 1048576 then (some true) else ((spec_DrawRunClock.f k l0).bind fun bt391 => ((impl_RunClock.f k bt391.1 bt391.2.1 bt391.2.2.1 bt391.2.2.2).bind fun bt398 => ((spec_RunClock.f k bt391.1 bt391.2.1 bt391.2.2.1 bt391.2.2.2).bind fun bt403 => (if (!(bt398.1 == bt403.1) || (!(bt398.2.1 == bt403.2.1) || (!(bt398.2.2.1 == bt403.2.2.1)))) = true then (laws_FnRunClockParts.j0 k bt391.2.2.2 bt398.2.2.2 bt403.2.2.2 true bt391.1 bt391.2.1 bt391.2.2.1 bt398.1 bt398.2.1 bt398.2.2.1 bt403.1 bt403.2.1 bt403.2.2.1) else (if (bt398.2.2.2 != bt403.2.2.2) = true then (laws_FnRunClockParts.j0 k bt391.2.2.2 bt398.2.2.2 bt403.2.2.2 true bt391.1 bt391.2.1 bt391.2.2.1 bt398.1 bt398.2.1 bt398.2.2.1 bt403.1 bt403.2.1 bt403.2.2.1) else (laws_FnRunClockParts.j0 k bt391.2.2.2 bt398.2.2.2 bt403.2.2.2 (!bt398.2.2.2) bt391.1 bt391.2.1 bt391.2.2.1 bt398.1 bt398.2.1 bt398.2.2.1 bt403.1 bt403.2.1 bt403.2.2.1))))))) = some r := h
 clear h
 by_cases c2 : (l0.length : Int) > 1048576
 · rw [if_pos c2] at H
   have c2b0 : decide (1048576 < (l0.length : Int)) = true := decide_eq_true c2
   have c2b1 : decide (1048576 < l0.length) = true := decide_eq_true (by omega)
   clear c2
   obtain rfl := Option.some.inj H
   go_enter Try.func6, Try.ntmps6
   go_wp2
   go_ret
   exact ⟨by first | rfl | (simp [errW_none, errW_some] <;> rfl) | (simp [*, errW_none, errW_some] <;> rfl), by repeat (first | (with_reducible first | exact HB.out | apply bwA | apply bwN | apply bwD) | exact HB.out)⟩
 · rw [if_neg c2] at H
   have c2b0 : decide (1048576 < (l0.length : Int)) = false := decide_eq_false c2
   have c2b1 : decide (1048576 < l0.length) = false := decide_eq_false (by omega)
   clear c2
   replace H := Option.bind_eq_some_iff.mp H
   obtain ⟨⟨t391, t392, t393, t394⟩, A30, H⟩ := H
   replace H : ((impl_RunClock.f k t391 t392 t393 t394).bind fun bt398 => ((spec_RunClock.f k t391 t392 t393 t394).bind fun bt403 => (if (!(bt398.1 == bt403.1) || (!(bt398.2.1 == bt403.2.1) || (!(bt398.2.2.1 == bt403.2.2.1)))) = true then (laws_FnRunClockParts.j0 k t394 bt398.2.2.2 bt403.2.2.2 true t391 t392 t393 bt398.1 bt398.2.1 bt398.2.2.1 bt403.1 bt403.2.1 bt403.2.2.1) else (if (bt398.2.2.2 != bt403.2.2.2) = true then (laws_FnRunClockParts.j0 k t394 bt398.2.2.2 bt403.2.2.2 true t391 t392 t393 bt398.1 bt398.2.1 bt398.2.2.1 bt403.1 bt403.2.1 bt403.2.2.1) else (laws_FnRunClockParts.j0 k t394 bt398.2.2.2 bt403.2.2.2 (!bt398.2.2.2) t391 t392 t393 bt398.1 bt398.2.1 bt398.2.2.1 bt403.1 bt403.2.1 bt403.2.2.1))))) = some r := H
   have A3 := Aside0.mk A30
   clear A30
   replace H := Option.bind_eq_some_iff.mp H
   obtain ⟨⟨t398, t399, t400, t401⟩, A40, H⟩ := H
   replace H : ((spec_RunClock.f k t391 t392 t393 t394).bind fun bt403 => (if (!(t398 == bt403.1) || (!(t399 == bt403.2.1) || (!(t400 == bt403.2.2.1)))) = true then (laws_FnRunClockParts.j0 k t394 t401 bt403.2.2.2 true t391 t392 t393 t398 t399 t400 bt403.1 bt403.2.1 bt403.2.2.1) else (if (t401 != bt403.2.2.2) = true then (laws_FnRunClockParts.j0 k t394 t401 bt403.2.2.2 true t391 t392 t393 t398 t399 t400 bt403.1 bt403.2.1 bt403.2.2.1) else (laws_FnRunClockParts.j0 k t394 t401 bt403.2.2.2 (!t401) t391 t392 t393 t398 t399 t400 bt403.1 bt403.2.1 bt403.2.2.1)))) = some r := H
   have A4 := Aside0.mk A40
   clear A40
   replace H := Option.bind_eq_some_iff.mp H
   obtain ⟨⟨t403, t404, t405, t406⟩, A50, H⟩ := H
   replace H : (if (!(t398 == t403) || (!(t399 == t404) || (!(t400 == t405)))) = true then (laws_FnRunClockParts.j0 k t394 t401 t406 true t391 t392 t393 t398 t399 t400 t403 t404 t405) else (if (t401 != t406) = true then (laws_FnRunClockParts.j0 k t394 t401 t406 true t391 t392 t393 t398 t399 t400 t403 t404 t405) else (laws_FnRunClockParts.j0 k t394 t401 t406 (!t401) t391 t392 t393 t398 t399 t400 t403 t404 t405))) = some r := H
   have A5 := Aside0.mk A50
   clear A50
   have HC6 := Aside0.mk H
   clear H
   go_enter Try.func6, Try.ntmps6
   go_upto_region 6 with (first | ((with_reducible refine gate_callee (f := 14) rfl ?_); refine goesL_ (some 19) rfl rfl Try.func14 (by kernel_rfl) rfl #[.slice A0 l0.length c0] rfl (by (try simp only [List.map_toArray, List.map_cons, List.map_nil]); first | done | rfl | (simp only [List.length_drop, List.length_take]; rfl)) ?_; (with_reducible refine (spec_DrawRunClock.calls k _ _ l0 t391 t392 t393 t394 _ ?side1 ?side2 A3.out).mono ?_); (case side1 => repeat (first | exact HR0.out | (with_reducible refine Kd.C_alloc ?_ _) | (with_reducible refine Kd.C_drewN ?_ _) | (with_reducible refine Kd.C_drew ?_))); (case side2 => exact HC0.out); rintro e w7 ⟨v395, rfl, ho0, hb⟩; refine ⟨_, rfl, ?_⟩; have n0_ := Aside0.mk (Kd.R_lower ho0 (below_size (by repeat (first | (with_reducible first | exact HB.out | apply bwA | apply bwN | apply bwD) | exact HB.out)))); have n1_ := Aside0.mk (below_step (by repeat (first | (with_reducible first | exact HB.out | apply bwA | apply bwN | apply bwD) | exact HB.out)) hb); clear HB; have HO396 := n0_; have HB := n1_; clear n0_ n1_; (try clear hb); (try clear hb2); (try clear hk); (try clear hi); (try clear ho0)) | ((with_reducible refine gate_dst (N := 3) rfl ?_); refine box_event ?hg (N := 3) ?hd (cs := #[.int .i64 0, .int .i64 0, .int .i64 0]) (t := 26) ?hr ?_; (case hd => rfl); (case hg => rfl); (case hr => first | (go_simp; done) | (go_simp; rfl)); intro gb397 hg w8 hbox hb; have n0_ := Aside0.mk (Kd.R_below (by (with_reducible repeat (first | apply Kd.R_alloc | apply Kd.R_drewN | apply Kd.R_drew)); exact HO396.out) hb); have n1_ := Aside0.mk (below_step (by repeat (first | (with_reducible first | exact HB.out | apply bwA | apply bwN | apply bwD) | exact HB.out)) hb); have n2_ := Aside0.mk (hbox); have n3_ := Aside0.mk ((by rw [hg]; exact (below_size (by repeat (first | (with_reducible first | exact HB.out | apply bwA | apply bwN | apply bwD) | exact HB.out))) : w.heap.size ≤ gb397)); have n4_ := Aside0.mk ((by rw [hg]; exact (below_size (by repeat (first | (with_reducible first | exact HB.out | apply bwA | apply bwN | apply bwD) | exact HB.out))) : w.heap.size ≤ gb397)); clear HO396; clear HB; have HO396 := n0_; have HB := n1_; have BK397 := n2_; have GW397 := n3_; have GE397 := n4_; clear n0_ n1_ n2_ n3_ n4_; clear hb hbox hg; have hcz9_0 : w8.cell? ⟨gb397, 0, none⟩ = some (.int .i64 0) := (blk_cell BK397.out 0).trans rfl; have hcz9_1 : w8.cell? ⟨gb397, 1, none⟩ = some (.int .i64 0) := (blk_cell BK397.out 1).trans rfl; have hcz9_2 : w8.cell? ⟨gb397, 2, none⟩ = some (.int .i64 0) := (blk_cell BK397.out 2).trans rfl; have hfz9_0 := blk_frozen BK397.out 0; have hfz9_1 := blk_frozen BK397.out 1; have hfz9_2 := blk_frozen BK397.out 2; obtain ⟨Ao10, co10, eo10⟩ := Kd.R_slice HO396.out; subst eo10) | ((with_reducible refine gate_callee (f := 11) rfl ?_); refine goesL_ (some 25) rfl rfl Try.func11 (by kernel_rfl) rfl #[.agg #[.int .i64 t391, .int .i64 t392, .int .i64 t393], .slice Ao10 t394.length co10] rfl (by (try simp only [List.map_toArray, List.map_cons, List.map_nil]); first | done | rfl | (simp only [List.length_drop, List.length_take]; rfl)) ?_; (with_reducible refine (impl_RunClock.calls k t391 t392 t393 _ _ t394 t398 t399 t400 t401 _ ?side1 ?side2 A4.out).mono ?_); (case side1 => refine (Kd.R_reads' (e := 40) (base := w.heap.size) (ok := fun k_ => True) (n := t394.length) (c := co10) ?_).2.2; exact (by (with_reducible repeat (first | apply Kd.R_alloc | apply Kd.R_drewN | apply Kd.R_drew)); exact (Kd.R_mono (Kd.R_far (p := ⟨gb397, 2, none⟩) (Kd.R_far (p := ⟨gb397, 1, none⟩) (Kd.R_far (p := ⟨gb397, 0, none⟩) (Kd.R_types HO396.out BK397.out (by decide)) (fun _ hk => hk.2) (.int .i64 t391)) (fun _ hk => hk.2) (.int .i64 t392)) (fun _ hk => hk.2) (.int .i64 t393)) (fun _ h_ => h_.1)))); (case side2 => exact (Kd.R_reads' HO396.out).2.1); rintro e w11 ⟨rfl, hb⟩; refine ⟨_, rfl, ?_⟩; have n0_ := Aside0.mk (Kd.R_below (by (with_reducible repeat (first | apply Kd.R_alloc | apply Kd.R_drewN | apply Kd.R_drew)); exact (Kd.R_mono (Kd.R_far (p := ⟨gb397, 2, none⟩) (Kd.R_far (p := ⟨gb397, 1, none⟩) (Kd.R_far (p := ⟨gb397, 0, none⟩) (Kd.R_types HO396.out BK397.out (by decide)) (fun _ hk => hk.2) (.int .i64 t391)) (fun _ hk => hk.2) (.int .i64 t392)) (fun _ hk => hk.2) (.int .i64 t393)) (fun _ h_ => h_.1))) hb); have n1_ := Aside0.mk (blk_below (g := gb397) (o := .cells #[.int .i64 t391, .int .i64 t392, .int .i64 t393] 26 (0, 0)) (by (with_reducible repeat (first | apply bkN | apply bkD | apply bkA)); refine blk_put (cs := #[.int .i64 t391, .int .i64 t392, .int .i64 0]) ?_ 2 _ rfl; (with_reducible repeat (first | apply bkN | apply bkD | apply bkA)); refine blk_put (cs := #[.int .i64 t391, .int .i64 0, .int .i64 0]) ?_ 1 _ rfl; (with_reducible repeat (first | apply bkN | apply bkD | apply bkA)); refine blk_put (cs := #[.int .i64 0, .int .i64 0, .int .i64 0]) ?_ 0 _ rfl; (with_reducible repeat (first | apply bkN | apply bkD | apply bkA)); exact BK397.out) hb); have n2_ := Aside0.mk (below_step (by repeat (first | (with_reducible first | exact HB.out | apply bwA | apply bwN | apply bwD | refine bwS ?_ GE397.out) | exact HB.out)) hb); clear HO396; clear BK397; clear HB; have HO396 := n0_; have BK397 := n1_; have HB := n2_; clear n0_ n1_ n2_; (try clear hb); (try clear hb2); (try clear hk); (try clear hi)) | ((with_reducible refine gate_dst (N := 5) rfl ?_); refine box_event ?hg (N := 5) ?hd (cs := #[.int .i64 0, .int .i64 0, .int .i64 0]) (t := 26) ?hr ?_; (case hd => rfl); (case hg => rfl); (case hr => first | (go_simp; done) | (go_simp; rfl)); intro gb402 hg w12 hbox hb; have n0_ := Aside0.mk (Kd.R_below (by (with_reducible repeat (first | apply Kd.R_alloc | apply Kd.R_drewN | apply Kd.R_drew)); exact HO396.out) hb); have n1_ := Aside0.mk (blk_below (g := gb397) (o := .cells #[.int .i64 t391, .int .i64 t392, .int .i64 t393] 26 (0, 0)) (by (with_reducible repeat (first | apply bkN | apply bkD | apply bkA)); exact BK397.out) hb); have n2_ := Aside0.mk (below_step (by repeat (first | (with_reducible first | exact HB.out | apply bwA | apply bwN | apply bwD | refine bwS ?_ GE397.out) | exact HB.out)) hb); have n3_ := Aside0.mk (hbox); have n4_ := Aside0.mk ((by rw [hg]; exact (below_size (by repeat (first | (with_reducible first | exact HB.out | apply bwA | apply bwN | apply bwD | refine bwS ?_ GE397.out) | exact HB.out))) : w.heap.size ≤ gb402)); have n5_ := Aside0.mk ((by rw [hg]; exact (below_size (by repeat (first | (with_reducible first | exact HB.out | apply bwA | apply bwN | apply bwD | refine bwS ?_ GE397.out) | exact HB.out))) : w.heap.size ≤ gb402)); have n6_ := Aside0.mk ((by rw [hg]; exact Nat.ne_of_lt (blk_lt (g := gb397) (o := .cells #[.int .i64 t391, .int .i64 t392, .int .i64 t393] 26 (0, 0)) (by (with_reducible repeat (first | apply bkN | apply bkD | apply bkA)); exact BK397.out)) : gb397 ≠ gb402)); have n7_ := Aside0.mk ((by rw [hg]; exact Nat.ne_of_gt (blk_lt (g := gb397) (o := .cells #[.int .i64 t391, .int .i64 t392, .int .i64 t393] 26 (0, 0)) (by (with_reducible repeat (first | apply bkN | apply bkD | apply bkA)); exact BK397.out)) : gb402 ≠ gb397)); clear HO396; clear BK397; clear HB; have HO396 := n0_; have BK397 := n1_; have HB := n2_; have BK402 := n3_; have GW402 := n4_; have GE402 := n5_; have NB397_402 := n6_; have NB402_397 := n7_; clear n0_ n1_ n2_ n3_ n4_ n5_ n6_ n7_; clear hb hbox hg; have hnb13 := NB402_397.out; have hnc13 := NB397_402.out; have hcz14_0 : w12.cell? ⟨gb402, 0, none⟩ = some (.int .i64 0) := (blk_cell BK402.out 0).trans rfl; have hcz14_1 : w12.cell? ⟨gb402, 1, none⟩ = some (.int .i64 0) := (blk_cell BK402.out 1).trans rfl; have hcz14_2 : w12.cell? ⟨gb402, 2, none⟩ = some (.int .i64 0) := (blk_cell BK402.out 2).trans rfl; have hfz14_0 := blk_frozen BK402.out 0; have hfz14_1 := blk_frozen BK402.out 1; have hfz14_2 := blk_frozen BK402.out 2; have hcz15_0 : w12.cell? ⟨gb397, 0, none⟩ = some (.int .i64 t391) := (blk_cell BK397.out 0).trans rfl; have hcz15_1 : w12.cell? ⟨gb397, 1, none⟩ = some (.int .i64 t392) := (blk_cell BK397.out 1).trans rfl; have hcz15_2 : w12.cell? ⟨gb397, 2, none⟩ = some (.int .i64 t393) := (blk_cell BK397.out 2).trans rfl; have hfz15_0 := blk_frozen BK397.out 0; have hfz15_1 := blk_frozen BK397.out 1; have hfz15_2 := blk_frozen BK397.out 2) | ((with_reducible refine gate_callee (f := 8) rfl ?_); refine goesL_ (some 31) rfl rfl Try.func8 (by kernel_rfl) rfl #[.agg #[.int .i64 t391, .int .i64 t392, .int .i64 t393], .slice Ao10 t394.length co10] rfl (by (try simp only [List.map_toArray, List.map_cons, List.map_nil]); first | done | rfl | (simp only [List.length_drop, List.length_take]; rfl)) ?_; (with_reducible refine (spec_RunClock.calls k t391 t392 t393 _ _ t394 t403 t404 t405 t406 _ ?side1 ?side2 A5.out).mono ?_); (case side1 => refine (Kd.R_reads' (e := 40) (base := w.heap.size) (ok := fun k_ => True) (n := t394.length) (c := co10) ?_).2.2; exact (by (with_reducible repeat (first | apply Kd.R_alloc | apply Kd.R_drewN | apply Kd.R_drew)); exact (Kd.R_mono (Kd.R_far (p := ⟨gb402, 2, none⟩) (Kd.R_far (p := ⟨gb402, 1, none⟩) (Kd.R_far (p := ⟨gb402, 0, none⟩) (Kd.R_types HO396.out BK402.out (by decide)) (fun _ hk => hk.2) (.int .i64 t398)) (fun _ hk => hk.2) (.int .i64 t399)) (fun _ hk => hk.2) (.int .i64 t400)) (fun _ h_ => h_.1)))); (case side2 => exact (Kd.R_reads' HO396.out).2.1); rintro e w16 ⟨rfl, hb⟩; refine ⟨_, rfl, ?_⟩; have n0_ := Aside0.mk (Kd.R_below (by (with_reducible repeat (first | apply Kd.R_alloc | apply Kd.R_drewN | apply Kd.R_drew)); exact (Kd.R_mono (Kd.R_far (p := ⟨gb402, 2, none⟩) (Kd.R_far (p := ⟨gb402, 1, none⟩) (Kd.R_far (p := ⟨gb402, 0, none⟩) (Kd.R_types HO396.out BK402.out (by decide)) (fun _ hk => hk.2) (.int .i64 t398)) (fun _ hk => hk.2) (.int .i64 t399)) (fun _ hk => hk.2) (.int .i64 t400)) (fun _ h_ => h_.1))) hb); have n1_ := Aside0.mk (blk_below (g := gb397) (o := .cells #[.int .i64 t391, .int .i64 t392, .int .i64 t393] 26 (0, 0)) (by (with_reducible repeat (first | apply bkN | apply bkD | apply bkA)); refine blk_far ?_ NB397_402.out _; (with_reducible repeat (first | apply bkN | apply bkD | apply bkA)); refine blk_far ?_ NB397_402.out _; (with_reducible repeat (first | apply bkN | apply bkD | apply bkA)); refine blk_far ?_ NB397_402.out _; (with_reducible repeat (first | apply bkN | apply bkD | apply bkA)); exact BK397.out) hb); have n2_ := Aside0.mk (blk_below (g := gb402) (o := .cells #[.int .i64 t398, .int .i64 t399, .int .i64 t400] 26 (0, 0)) (by (with_reducible repeat (first | apply bkN | apply bkD | apply bkA)); refine blk_put (cs := #[.int .i64 t398, .int .i64 t399, .int .i64 0]) ?_ 2 _ rfl; (with_reducible repeat (first | apply bkN | apply bkD | apply bkA)); refine blk_put (cs := #[.int .i64 t398, .int .i64 0, .int .i64 0]) ?_ 1 _ rfl; (with_reducible repeat (first | apply bkN | apply bkD | apply bkA)); refine blk_put (cs := #[.int .i64 0, .int .i64 0, .int .i64 0]) ?_ 0 _ rfl; (with_reducible repeat (first | apply bkN | apply bkD | apply bkA)); exact BK402.out) hb); have n3_ := Aside0.mk (below_step (by repeat (first | (with_reducible first | exact HB.out | apply bwA | apply bwN | apply bwD | refine bwS ?_ GE397.out | refine bwS ?_ GE402.out) | exact HB.out)) hb); clear HO396; clear BK397; clear BK402; clear HB; have HO396 := n0_; have BK397 := n1_; have BK402 := n2_; have HB := n3_; clear n0_ n1_ n2_ n3_; (try clear hb); (try clear hb2); (try clear hk); (try clear hi)) | ((with_reducible refine gate_dst (N := 7) rfl ?_); refine box_event ?hg (N := 7) ?hd (cs := #[.int .i64 0, .int .i64 0, .int .i64 0]) (t := 26) ?hr ?_; (case hd => rfl); (case hg => rfl); (case hr => first | (go_simp; done) | (go_simp; rfl)); intro gb407 hg w17 hbox hb; have n0_ := Aside0.mk (Kd.R_below (by (with_reducible repeat (first | apply Kd.R_alloc | apply Kd.R_drewN | apply Kd.R_drew)); exact HO396.out) hb); have n1_ := Aside0.mk (blk_below (g := gb397) (o := .cells #[.int .i64 t391, .int .i64 t392, .int .i64 t393] 26 (0, 0)) (by (with_reducible repeat (first | apply bkN | apply bkD | apply bkA)); exact BK397.out) hb); have n2_ := Aside0.mk (blk_below (g := gb402) (o := .cells #[.int .i64 t398, .int .i64 t399, .int .i64 t400] 26 (0, 0)) (by (with_reducible repeat (first | apply bkN | apply bkD | apply bkA)); exact BK402.out) hb); have n3_ := Aside0.mk (below_step (by repeat (first | (with_reducible first | exact HB.out | apply bwA | apply bwN | apply bwD | refine bwS ?_ GE397.out | refine bwS ?_ GE402.out) | exact HB.out)) hb); have n4_ := Aside0.mk (hbox); have n5_ := Aside0.mk ((by rw [hg]; exact (below_size (by repeat (first | (with_reducible first | exact HB.out | apply bwA | apply bwN | apply bwD | refine bwS ?_ GE397.out | refine bwS ?_ GE402.out) | exact HB.out))) : w.heap.size ≤ gb407)); have n6_ := Aside0.mk ((by rw [hg]; exact (below_size (by repeat (first | (with_reducible first | exact HB.out | apply bwA | apply bwN | apply bwD | refine bwS ?_ GE397.out | refine bwS ?_ GE402.out) | exact HB.out))) : w.heap.size ≤ gb407)); have n7_ := Aside0.mk ((by rw [hg]; exact Nat.ne_of_lt (blk_lt (g := gb397) (o := .cells #[.int .i64 t391, .int .i64 t392, .int .i64 t393] 26 (0, 0)) (by (with_reducible repeat (first | apply bkN | apply bkD | apply bkA)); exact BK397.out)) : gb397 ≠ gb407)); have n8_ := Aside0.mk ((by rw [hg]; exact Nat.ne_of_gt (blk_lt (g := gb397) (o := .cells #[.int .i64 t391, .int .i64 t392, .int .i64 t393] 26 (0, 0)) (by (with_reducible repeat (first | apply bkN | apply bkD | apply bkA)); exact BK397.out)) : gb407 ≠ gb397)); have n9_ := Aside0.mk ((by rw [hg]; exact Nat.ne_of_lt (blk_lt (g := gb402) (o := .cells #[.int .i64 t398, .int .i64 t399, .int .i64 t400] 26 (0, 0)) (by (with_reducible repeat (first | apply bkN | apply bkD | apply bkA)); exact BK402.out)) : gb402 ≠ gb407)); have n10_ := Aside0.mk ((by rw [hg]; exact Nat.ne_of_gt (blk_lt (g := gb402) (o := .cells #[.int .i64 t398, .int .i64 t399, .int .i64 t400] 26 (0, 0)) (by (with_reducible repeat (first | apply bkN | apply bkD | apply bkA)); exact BK402.out)) : gb407 ≠ gb402)); clear HO396; clear BK397; clear BK402; clear HB; have HO396 := n0_; have BK397 := n1_; have BK402 := n2_; have HB := n3_; have BK407 := n4_; have GW407 := n5_; have GE407 := n6_; have NB397_407 := n7_; have NB407_397 := n8_; have NB402_407 := n9_; have NB407_402 := n10_; clear n0_ n1_ n2_ n3_ n4_ n5_ n6_ n7_ n8_ n9_ n10_; clear hb hbox hg; have hnb18 := NB407_397.out; have hnc18 := NB397_407.out; have hnb19 := NB407_402.out; have hnc19 := NB402_407.out; have hcz20_0 : w17.cell? ⟨gb407, 0, none⟩ = some (.int .i64 0) := (blk_cell BK407.out 0).trans rfl; have hcz20_1 : w17.cell? ⟨gb407, 1, none⟩ = some (.int .i64 0) := (blk_cell BK407.out 1).trans rfl; have hcz20_2 : w17.cell? ⟨gb407, 2, none⟩ = some (.int .i64 0) := (blk_cell BK407.out 2).trans rfl; have hfz20_0 := blk_frozen BK407.out 0; have hfz20_1 := blk_frozen BK407.out 1; have hfz20_2 := blk_frozen BK407.out 2))
   (try simp only [Act.put, List.setIfInBounds_toArray, List.set_cons_zero, List.set_cons_succ])
   go_cut [45] (fun v45 wc => ∃ (kq : Nat) (x45_5 : Bool), v45 = .bool x45_5 ∧ Aside0 (laws_FnRunClockParts.j0 kq t394 t401 t406 x45_5 t391 t392 t393 t398 t399 t400 t403 t404 t405 = some r) ∧ Aside0 (kq ≤ k) ∧ Aside0 (Kd.R k40 40 wc w.heap.size (fun _ => True) (.slice Ao10 t394.length co10) t394) ∧ Aside0 (wc.heap[gb397]? = some (.cells #[.int .i64 t391, .int .i64 t392, .int .i64 t393] 26 (0, 0))) ∧ Aside0 (wc.heap[gb402]? = some (.cells #[.int .i64 t398, .int .i64 t399, .int .i64 t400] 26 (0, 0))) ∧ Aside0 (wc.heap[gb407]? = some (.cells #[.int .i64 t403, .int .i64 t404, .int .i64 t405] 26 (0, 0))) ∧ Aside0 (Below w.heap.size w wc))
   case first =>
    have H := HC6.out
    clear HC6
    by_cases c21 : (!(t398 == t403) || (!(t399 == t404) || (!(t400 == t405)))) = true
    · rw [if_pos c21] at H
      have c21b0 : (!(t398 == t403) || (!(t399 == t404) || (!(t400 == t405)))) = true := c21
      clear c21
      (first | rw [c21b0] | (simp only [i64_w, i32_w]; rw [c21b0]) | skip)
      have H' := Aside0.mk H
      clear H
      have hnb22 := NB402_397.out
      have hnc22 := NB397_402.out
      have hnb23 := NB402_407.out
      have hnc23 := NB407_402.out
      have hcz24_0 : w17.cell? ⟨gb402, 0, none⟩ = some (.int .i64 t398) := (blk_cell BK402.out 0).trans rfl
      have hcz24_1 : w17.cell? ⟨gb402, 1, none⟩ = some (.int .i64 t399) := (blk_cell BK402.out 1).trans rfl
      have hcz24_2 : w17.cell? ⟨gb402, 2, none⟩ = some (.int .i64 t400) := (blk_cell BK402.out 2).trans rfl
      have hfz24_0 := blk_frozen BK402.out 0
      have hfz24_1 := blk_frozen BK402.out 1
      have hfz24_2 := blk_frozen BK402.out 2
      have hnb25 := NB407_397.out
      have hnc25 := NB397_407.out
      have hcz26_0 : w17.cell? ⟨gb407, 0, none⟩ = some (.int .i64 0) := (blk_cell BK407.out 0).trans rfl
      have hcz26_1 : w17.cell? ⟨gb407, 1, none⟩ = some (.int .i64 0) := (blk_cell BK407.out 1).trans rfl
      have hcz26_2 : w17.cell? ⟨gb407, 2, none⟩ = some (.int .i64 0) := (blk_cell BK407.out 2).trans rfl
      have hfz26_0 := blk_frozen BK407.out 0
      have hfz26_1 := blk_frozen BK407.out 1
      have hfz26_2 := blk_frozen BK407.out 2
      go_wp2
      go_meet
      case rel => exact ⟨_, (true), (by first | rfl | (simp; done) | (simp [*]; done)), H', ⟨by first | omega | exact Nat.le_refl _⟩, ⟨by (with_reducible repeat (first | apply Kd.R_alloc | apply Kd.R_drewN | apply Kd.R_drew)); exact Kd.R_mono (Kd.R_far (p := ⟨gb407, 2, none⟩) (Kd.R_far (p := ⟨gb407, 1, none⟩) (Kd.R_far (p := ⟨gb407, 0, none⟩) (Kd.R_types HO396.out BK407.out (by decide)) (fun _ hk => hk.2) (.int .i64 t403)) (fun _ hk => hk.2) (.int .i64 t404)) (fun _ hk => hk.2) (.int .i64 t405)) (fun _ hk => trivial)⟩, ⟨by (with_reducible repeat (first | apply bkN | apply bkD | apply bkA)); refine blk_far ?_ NB397_407.out _; (with_reducible repeat (first | apply bkN | apply bkD | apply bkA)); refine blk_far ?_ NB397_407.out _; (with_reducible repeat (first | apply bkN | apply bkD | apply bkA)); refine blk_far ?_ NB397_407.out _; (with_reducible repeat (first | apply bkN | apply bkD | apply bkA)); exact BK397.out⟩, ⟨by (with_reducible repeat (first | apply bkN | apply bkD | apply bkA)); refine blk_far ?_ NB402_407.out _; (with_reducible repeat (first | apply bkN | apply bkD | apply bkA)); refine blk_far ?_ NB402_407.out _; (with_reducible repeat (first | apply bkN | apply bkD | apply bkA)); refine blk_far ?_ NB402_407.out _; (with_reducible repeat (first | apply bkN | apply bkD | apply bkA)); exact BK402.out⟩, ⟨by (with_reducible repeat (first | apply bkN | apply bkD | apply bkA)); refine blk_put (cs := #[.int .i64 t403, .int .i64 t404, .int .i64 0]) ?_ 2 _ rfl; (with_reducible repeat (first | apply bkN | apply bkD | apply bkA)); refine blk_put (cs := #[.int .i64 t403, .int .i64 0, .int .i64 0]) ?_ 1 _ rfl; (with_reducible repeat (first | apply bkN | apply bkD | apply bkA)); refine blk_put (cs := #[.int .i64 0, .int .i64 0, .int .i64 0]) ?_ 0 _ rfl; (with_reducible repeat (first | apply bkN | apply bkD | apply bkA)); exact BK407.out⟩, ⟨by repeat (first | (with_reducible first | exact HB.out | apply bwA | apply bwN | apply bwD | refine bwS ?_ GE397.out | refine bwS ?_ GE402.out | refine bwS ?_ GE407.out) | exact HB.out)⟩⟩
    · rw [if_neg c21] at H
      have c21b0 : (!(t398 == t403) || (!(t399 == t404) || (!(t400 == t405)))) = false := by simpa using c21
      clear c21
      (first | rw [c21b0] | (simp only [i64_w, i32_w]; rw [c21b0]) | skip)
      by_cases c27 : (t401 != t406) = true
      · rw [if_pos c27] at H
        have c27b0 : (t401 != t406) = true := c27
        (try (have c27b1 : decide (t401 = t406) = false := by simpa using c27))
        (try (have c27b2 : (t401 == t406) = false := by simpa using c27))
        (try (have c27b3 : ¬ (t401 = t406) := by simpa using c27))
        clear c27
        have H' := Aside0.mk H
        clear H
        have hnb28 := NB402_397.out
        have hnc28 := NB397_402.out
        have hnb29 := NB402_407.out
        have hnc29 := NB407_402.out
        have hcz30_0 : w17.cell? ⟨gb402, 0, none⟩ = some (.int .i64 t398) := (blk_cell BK402.out 0).trans rfl
        have hcz30_1 : w17.cell? ⟨gb402, 1, none⟩ = some (.int .i64 t399) := (blk_cell BK402.out 1).trans rfl
        have hcz30_2 : w17.cell? ⟨gb402, 2, none⟩ = some (.int .i64 t400) := (blk_cell BK402.out 2).trans rfl
        have hfz30_0 := blk_frozen BK402.out 0
        have hfz30_1 := blk_frozen BK402.out 1
        have hfz30_2 := blk_frozen BK402.out 2
        have hnb31 := NB407_397.out
        have hnc31 := NB397_407.out
        have hcz32_0 : w17.cell? ⟨gb407, 0, none⟩ = some (.int .i64 0) := (blk_cell BK407.out 0).trans rfl
        have hcz32_1 : w17.cell? ⟨gb407, 1, none⟩ = some (.int .i64 0) := (blk_cell BK407.out 1).trans rfl
        have hcz32_2 : w17.cell? ⟨gb407, 2, none⟩ = some (.int .i64 0) := (blk_cell BK407.out 2).trans rfl
        have hfz32_0 := blk_frozen BK407.out 0
        have hfz32_1 := blk_frozen BK407.out 1
        have hfz32_2 := blk_frozen BK407.out 2
        go_wp2
        go_meet
        case rel => exact ⟨_, (true), (by first | rfl | (simp; done) | (simp [*]; done)), H', ⟨by first | omega | exact Nat.le_refl _⟩, ⟨by (with_reducible repeat (first | apply Kd.R_alloc | apply Kd.R_drewN | apply Kd.R_drew)); exact Kd.R_mono (Kd.R_far (p := ⟨gb407, 2, none⟩) (Kd.R_far (p := ⟨gb407, 1, none⟩) (Kd.R_far (p := ⟨gb407, 0, none⟩) (Kd.R_types HO396.out BK407.out (by decide)) (fun _ hk => hk.2) (.int .i64 t403)) (fun _ hk => hk.2) (.int .i64 t404)) (fun _ hk => hk.2) (.int .i64 t405)) (fun _ hk => trivial)⟩, ⟨by (with_reducible repeat (first | apply bkN | apply bkD | apply bkA)); refine blk_far ?_ NB397_407.out _; (with_reducible repeat (first | apply bkN | apply bkD | apply bkA)); refine blk_far ?_ NB397_407.out _; (with_reducible repeat (first | apply bkN | apply bkD | apply bkA)); refine blk_far ?_ NB397_407.out _; (with_reducible repeat (first | apply bkN | apply bkD | apply bkA)); exact BK397.out⟩, ⟨by (with_reducible repeat (first | apply bkN | apply bkD | apply bkA)); refine blk_far ?_ NB402_407.out _; (with_reducible repeat (first | apply bkN | apply bkD | apply bkA)); refine blk_far ?_ NB402_407.out _; (with_reducible repeat (first | apply bkN | apply bkD | apply bkA)); refine blk_far ?_ NB402_407.out _; (with_reducible repeat (first | apply bkN | apply bkD | apply bkA)); exact BK402.out⟩, ⟨by (with_reducible repeat (first | apply bkN | apply bkD | apply bkA)); refine blk_put (cs := #[.int .i64 t403, .int .i64 t404, .int .i64 0]) ?_ 2 _ rfl; (with_reducible repeat (first | apply bkN | apply bkD | apply bkA)); refine blk_put (cs := #[.int .i64 t403, .int .i64 0, .int .i64 0]) ?_ 1 _ rfl; (with_reducible repeat (first | apply bkN | apply bkD | apply bkA)); refine blk_put (cs := #[.int .i64 0, .int .i64 0, .int .i64 0]) ?_ 0 _ rfl; (with_reducible repeat (first | apply bkN | apply bkD | apply bkA)); exact BK407.out⟩, ⟨by repeat (first | (with_reducible first | exact HB.out | apply bwA | apply bwN | apply bwD | refine bwS ?_ GE397.out | refine bwS ?_ GE402.out | refine bwS ?_ GE407.out) | exact HB.out)⟩⟩
      · rw [if_neg c27] at H
        have c27b0 : (t401 != t406) = false := by simpa using c27
        (try (have c27b1 : decide (t401 = t406) = true := by simpa using c27))
        (try (have c27b2 : (t401 == t406) = true := by simpa using c27))
        clear c27
        have H' := Aside0.mk H
        clear H
        have hnb33 := NB402_397.out
        have hnc33 := NB397_402.out
        have hnb34 := NB402_407.out
        have hnc34 := NB407_402.out
        have hcz35_0 : w17.cell? ⟨gb402, 0, none⟩ = some (.int .i64 t398) := (blk_cell BK402.out 0).trans rfl
        have hcz35_1 : w17.cell? ⟨gb402, 1, none⟩ = some (.int .i64 t399) := (blk_cell BK402.out 1).trans rfl
        have hcz35_2 : w17.cell? ⟨gb402, 2, none⟩ = some (.int .i64 t400) := (blk_cell BK402.out 2).trans rfl
        have hfz35_0 := blk_frozen BK402.out 0
        have hfz35_1 := blk_frozen BK402.out 1
        have hfz35_2 := blk_frozen BK402.out 2
        have hnb36 := NB407_397.out
        have hnc36 := NB397_407.out
        have hcz37_0 : w17.cell? ⟨gb407, 0, none⟩ = some (.int .i64 0) := (blk_cell BK407.out 0).trans rfl
        have hcz37_1 : w17.cell? ⟨gb407, 1, none⟩ = some (.int .i64 0) := (blk_cell BK407.out 1).trans rfl
        have hcz37_2 : w17.cell? ⟨gb407, 2, none⟩ = some (.int .i64 0) := (blk_cell BK407.out 2).trans rfl
        have hfz37_0 := blk_frozen BK407.out 0
        have hfz37_1 := blk_frozen BK407.out 1
        have hfz37_2 := blk_frozen BK407.out 2
        go_wp2
        go_meet
        case rel => exact ⟨_, (!t401), (by first | rfl | (simp; done) | (simp [*]; done)), H', ⟨by first | omega | exact Nat.le_refl _⟩, ⟨by (with_reducible repeat (first | apply Kd.R_alloc | apply Kd.R_drewN | apply Kd.R_drew)); exact Kd.R_mono (Kd.R_far (p := ⟨gb407, 2, none⟩) (Kd.R_far (p := ⟨gb407, 1, none⟩) (Kd.R_far (p := ⟨gb407, 0, none⟩) (Kd.R_types HO396.out BK407.out (by decide)) (fun _ hk => hk.2) (.int .i64 t403)) (fun _ hk => hk.2) (.int .i64 t404)) (fun _ hk => hk.2) (.int .i64 t405)) (fun _ hk => trivial)⟩, ⟨by (with_reducible repeat (first | apply bkN | apply bkD | apply bkA)); refine blk_far ?_ NB397_407.out _; (with_reducible repeat (first | apply bkN | apply bkD | apply bkA)); refine blk_far ?_ NB397_407.out _; (with_reducible repeat (first | apply bkN | apply bkD | apply bkA)); refine blk_far ?_ NB397_407.out _; (with_reducible repeat (first | apply bkN | apply bkD | apply bkA)); exact BK397.out⟩, ⟨by (with_reducible repeat (first | apply bkN | apply bkD | apply bkA)); refine blk_far ?_ NB402_407.out _; (with_reducible repeat (first | apply bkN | apply bkD | apply bkA)); refine blk_far ?_ NB402_407.out _; (with_reducible repeat (first | apply bkN | apply bkD | apply bkA)); refine blk_far ?_ NB402_407.out _; (with_reducible repeat (first | apply bkN | apply bkD | apply bkA)); exact BK402.out⟩, ⟨by (with_reducible repeat (first | apply bkN | apply bkD | apply bkA)); refine blk_put (cs := #[.int .i64 t403, .int .i64 t404, .int .i64 0]) ?_ 2 _ rfl; (with_reducible repeat (first | apply bkN | apply bkD | apply bkA)); refine blk_put (cs := #[.int .i64 t403, .int .i64 0, .int .i64 0]) ?_ 1 _ rfl; (with_reducible repeat (first | apply bkN | apply bkD | apply bkA)); refine blk_put (cs := #[.int .i64 0, .int .i64 0, .int .i64 0]) ?_ 0 _ rfl; (with_reducible repeat (first | apply bkN | apply bkD | apply bkA)); exact BK407.out⟩, ⟨by repeat (first | (with_reducible first | exact HB.out | apply bwA | apply bwN | apply bwD | refine bwS ?_ GE397.out | refine bwS ?_ GE402.out | refine bwS ?_ GE407.out) | exact HB.out)⟩⟩
   case rest =>
    clear HC6
    try clear c1
    try clear c2
    try clear c2b0
    try clear c2b1
    try clear p2
    try clear c3
    try clear c6
    try clear c8
    try clear c11
    try clear c13
    try clear c14
    try clear c18
    try clear c19
    try clear c21
    try clear c21b0
    try clear c22
    try clear c23
    try clear c25
    try clear c27
    try clear c27b0
    try clear c27b1
    try clear c27b2
    try clear c28
    try clear c29
    try clear c31
    try clear c33
    try clear c34
    try clear c36
    try clear hcz14_0
    try clear hcz14_1
    try clear hcz14_2
    try clear hcz15_0
    try clear hcz15_1
    try clear hcz15_2
    try clear hcz20_0
    try clear hcz20_1
    try clear hcz20_2
    try clear hcz24_0
    try clear hcz24_1
    try clear hcz24_2
    try clear hcz26_0
    try clear hcz26_1
    try clear hcz26_2
    try clear hcz30_0
    try clear hcz30_1
    try clear hcz30_2
    try clear hcz32_0
    try clear hcz32_1
    try clear hcz32_2
    try clear hcz35_0
    try clear hcz35_1
    try clear hcz35_2
    try clear hcz37_0
    try clear hcz37_1
    try clear hcz37_2
    try clear hcz9_0
    try clear hcz9_1
    try clear hcz9_2
    try clear hfz14_0
    try clear hfz14_1
    try clear hfz14_2
    try clear hfz15_0
    try clear hfz15_1
    try clear hfz15_2
    try clear hfz20_0
    try clear hfz20_1
    try clear hfz20_2
    try clear hfz24_0
    try clear hfz24_1
    try clear hfz24_2
    try clear hfz26_0
    try clear hfz26_1
    try clear hfz26_2
    try clear hfz30_0
    try clear hfz30_1
    try clear hfz30_2
    try clear hfz32_0
    try clear hfz32_1
    try clear hfz32_2
    try clear hfz35_0
    try clear hfz35_1
    try clear hfz35_2
    try clear hfz37_0
    try clear hfz37_1
    try clear hfz37_2
    try clear hfz9_0
    try clear hfz9_1
    try clear hfz9_2
    obtain ⟨kq, x45_5, rfl, HA, HJ5, HO_4, BK397, BK402, BK407, HB⟩ := hcut
    cases kq with
    | zero => exact absurd HA.out (by simp [laws_FnRunClockParts.j0])
    | succ kj5 =>
     have H := HA.out
     clear HA
     simp only [laws_FnRunClockParts.j0] at H
     by_cases c38 : x45_5 = true
     · subst c38
       have H1 : (if (t398 == t403 && (t399 == t404 && (t400 == t405))) = true then (some (t401 == t406)) else (some false)) = some r := by rw [if_pos rfl] at H; exact H
       clear H
       have H := H1
       clear H1
       by_cases c39 : (t398 == t403 && (t399 == t404 && (t400 == t405))) = true
       · rw [if_pos c39] at H
         have c39b0 : (t398 == t403 && (t399 == t404 && (t400 == t405))) = true := c39
         (try (have c39b1 : decide (t398 = t403 && (t399 == t404 && (t400 == t405))) = true := by simpa using c39))
         (try (have c39b2 : (t398 == t403 && (t399 == t404 && (t400 == t405))) = true := by simpa using c39))
         clear c39
         obtain rfl := Option.some.inj H
         have hnb40 := NB402_397.out
         have hnc40 := NB397_402.out
         have hnb41 := NB402_407.out
         have hnc41 := NB407_402.out
         have hcz42_0 : wc.cell? ⟨gb402, 0, none⟩ = some (.int .i64 t398) := (blk_cell BK402.out 0).trans rfl
         have hcz42_1 : wc.cell? ⟨gb402, 1, none⟩ = some (.int .i64 t399) := (blk_cell BK402.out 1).trans rfl
         have hcz42_2 : wc.cell? ⟨gb402, 2, none⟩ = some (.int .i64 t400) := (blk_cell BK402.out 2).trans rfl
         have hfz42_0 := blk_frozen BK402.out 0
         have hfz42_1 := blk_frozen BK402.out 1
         have hfz42_2 := blk_frozen BK402.out 2
         have hnb43 := NB407_397.out
         have hnc43 := NB397_407.out
         have hcz44_0 : wc.cell? ⟨gb407, 0, none⟩ = some (.int .i64 t403) := (blk_cell BK407.out 0).trans rfl
         have hcz44_1 : wc.cell? ⟨gb407, 1, none⟩ = some (.int .i64 t404) := (blk_cell BK407.out 1).trans rfl
         have hcz44_2 : wc.cell? ⟨gb407, 2, none⟩ = some (.int .i64 t405) := (blk_cell BK407.out 2).trans rfl
         have hfz44_0 := blk_frozen BK407.out 0
         have hfz44_1 := blk_frozen BK407.out 1
         have hfz44_2 := blk_frozen BK407.out 2
         go_wp2
         go_ret
         exact ⟨by first | rfl | (simp [errW_none, errW_some] <;> rfl) | (simp [*, errW_none, errW_some] <;> rfl), by repeat (first | (with_reducible first | exact HB.out | apply bwA | apply bwN | apply bwD | refine bwS ?_ GE397.out | refine bwS ?_ GE402.out | refine bwS ?_ GE407.out) | exact HB.out)⟩
       · rw [if_neg c39] at H
         have c39b0 : (t398 == t403 && (t399 == t404 && (t400 == t405))) = false := by simpa using c39
         (try (have c39b1 : decide (t398 = t403 && (t399 == t404 && (t400 == t405))) = false := by simpa using c39))
         (try (have c39b2 : (t398 == t403 && (t399 == t404 && (t400 == t405))) = false := by simpa using c39))
         (try (have c39b3 : ¬ (t398 = t403 && (t399 == t404 && (t400 == t405))) := by simpa using c39))
         clear c39
         obtain rfl := Option.some.inj H
         have hnb45 := NB402_397.out
         have hnc45 := NB397_402.out
         have hnb46 := NB402_407.out
         have hnc46 := NB407_402.out
         have hcz47_0 : wc.cell? ⟨gb402, 0, none⟩ = some (.int .i64 t398) := (blk_cell BK402.out 0).trans rfl
         have hcz47_1 : wc.cell? ⟨gb402, 1, none⟩ = some (.int .i64 t399) := (blk_cell BK402.out 1).trans rfl
         have hcz47_2 : wc.cell? ⟨gb402, 2, none⟩ = some (.int .i64 t400) := (blk_cell BK402.out 2).trans rfl
         have hfz47_0 := blk_frozen BK402.out 0
         have hfz47_1 := blk_frozen BK402.out 1
         have hfz47_2 := blk_frozen BK402.out 2
         have hnb48 := NB407_397.out
         have hnc48 := NB397_407.out
         have hcz49_0 : wc.cell? ⟨gb407, 0, none⟩ = some (.int .i64 t403) := (blk_cell BK407.out 0).trans rfl
         have hcz49_1 : wc.cell? ⟨gb407, 1, none⟩ = some (.int .i64 t404) := (blk_cell BK407.out 1).trans rfl
         have hcz49_2 : wc.cell? ⟨gb407, 2, none⟩ = some (.int .i64 t405) := (blk_cell BK407.out 2).trans rfl
         have hfz49_0 := blk_frozen BK407.out 0
         have hfz49_1 := blk_frozen BK407.out 1
         have hfz49_2 := blk_frozen BK407.out 2
         go_wp2
         go_ret
         exact ⟨by first | rfl | (simp [errW_none, errW_some] <;> rfl) | (simp [*, errW_none, errW_some] <;> rfl), by repeat (first | (with_reducible first | exact HB.out | apply bwA | apply bwN | apply bwD | refine bwS ?_ GE397.out | refine bwS ?_ GE402.out | refine bwS ?_ GE407.out) | exact HB.out)⟩
     · replace c38 := Bool.eq_false_iff.mpr c38
       subst c38
       have H1 : (if 0 ≤ (wrap64 ((t394.length : Int) / 2)) then (if (wrap64 ((t394.length : Int) / 2)) ≤ (t394.length : Int) then ((impl_RunClock.f kj5 t391 t392 t393 (t394.take ((wrap64 ((t394.length : Int) / 2)) : Int).toNat)).bind fun bt412 => ((impl_RunClock.f kj5 bt412.1 bt412.2.1 bt412.2.2.1 (t394.drop ((wrap64 ((t394.length : Int) / 2)) : Int).toNat)).bind fun bt421 => (if bt412.2.2.2 = true then (if bt421.2.2.2 = true then (some (bt421.1 == t398 && (bt421.2.1 == t399 && (bt421.2.2.1 == t400)))) else (some false)) else (some false)))) else (none)) else (none)) = some r := by rw [if_neg (show ¬ (false = true) by decide)] at H; exact H
       clear H
       have H := H1
       clear H1
       obtain ⟨ji50, hji50⟩ : ∃ j_ : Int, (wrap64 ((t394.length : Int) / 2)) = j_ := ⟨_, rfl⟩
       replace H : (if 0 ≤ (ji50) then (if (ji50) ≤ (t394.length : Int) then ((impl_RunClock.f kj5 t391 t392 t393 (t394.take ((ji50) : Int).toNat)).bind fun bt412 => ((impl_RunClock.f kj5 bt412.1 bt412.2.1 bt412.2.2.1 (t394.drop ((ji50) : Int).toNat)).bind fun bt421 => (if bt412.2.2.2 = true then (if bt421.2.2.2 = true then (some (bt421.1 == t398 && (bt421.2.1 == t399 && (bt421.2.2.1 == t400)))) else (some false)) else (some false)))) else (none)) else (none)) = some r := by first | (rw [hji50] at H; exact H) | (simp only [hji50] at H ⊢; exact H)
       have hji50w : (IntKind.i64.wrap ((t394.length : Int) / 2)) = ji50 := (i64_w _).trans hji50
       by_cases c51 : 0 ≤ (ji50)
       · rw [if_pos c51] at H
         have c51b0 := eq_true c51
         have c51b1 : decide (0 ≤ (ji50)) = true := decide_eq_true c51
         clear c51
         by_cases c52 : (ji50) ≤ (t394.length : Int)
         · rw [if_pos c52] at H
           have c52b0 := eq_true c52
           have c52b1 : decide ((ji50) ≤ (t394.length : Int)) = true := decide_eq_true c52
           clear c52
           obtain ⟨y408, hy408⟩ : ∃ y_ : List (S40), y_ = (t394.take ((ji50) : Int).toNat) := ⟨_, rfl⟩
           replace H : ((impl_RunClock.f kj5 t391 t392 t393 y408).bind fun bt412 => ((impl_RunClock.f kj5 bt412.1 bt412.2.1 bt412.2.2.1 (t394.drop ((ji50) : Int).toNat)).bind fun bt421 => (if bt412.2.2.2 = true then (if bt421.2.2.2 = true then (some (bt421.1 == t398 && (bt421.2.1 == t399 && (bt421.2.2.1 == t400)))) else (some false)) else (some false)))) = some r := by first | (rw [hy408]; with_reducible exact H) | (have H2_ := (Option.bind_some _ _).symm.trans H; rw [hy408]; with_reducible exact H2_) | (have H2_ := (Option.bind_some _ _).symm.trans H; with_reducible exact H2_) | with_reducible exact H | (rw [hy408]; exact H) | exact H
           have Ny408 := Aside0.mk hy408
           clear hy408
           replace H := Option.bind_eq_some_iff.mp H
           obtain ⟨⟨t412, t413, t414, t415⟩, A530, H⟩ := H
           replace H : ((impl_RunClock.f kj5 t412 t413 t414 (t394.drop ((ji50) : Int).toNat)).bind fun bt421 => (if t415 = true then (if bt421.2.2.2 = true then (some (bt421.1 == t398 && (bt421.2.1 == t399 && (bt421.2.2.1 == t400)))) else (some false)) else (some false))) = some r := H
           have A53 := Aside0.mk A530
           clear A530
           have c54b0 := eq_true (of_decide_eq_true (by first | (with_reducible assumption) | assumption) : 0 ≤ (ji50))
           have c55b0 := eq_true (of_decide_eq_true (by first | (with_reducible assumption) | assumption) : (ji50) ≤ (t394.length : Int))
           obtain ⟨y417, hy417⟩ : ∃ y_ : List (S40), y_ = (t394.drop ((ji50) : Int).toNat) := ⟨_, rfl⟩
           replace H : ((impl_RunClock.f kj5 t412 t413 t414 y417).bind fun bt421 => (if t415 = true then (if bt421.2.2.2 = true then (some (bt421.1 == t398 && (bt421.2.1 == t399 && (bt421.2.2.1 == t400)))) else (some false)) else (some false))) = some r := by first | (rw [hy417]; with_reducible exact H) | (have H2_ := (Option.bind_some _ _).symm.trans H; rw [hy417]; with_reducible exact H2_) | (have H2_ := (Option.bind_some _ _).symm.trans H; with_reducible exact H2_) | with_reducible exact H | (rw [hy417]; exact H) | exact H
           have Ny417 := Aside0.mk hy417
           clear hy417
           replace H := Option.bind_eq_some_iff.mp H
           obtain ⟨⟨t421, t422, t423, t424⟩, A560, H⟩ := H
           replace H : (if t415 = true then (if t424 = true then (some (t421 == t398 && (t422 == t399 && (t423 == t400)))) else (some false)) else (some false)) = some r := H
           have A56 := Aside0.mk A560
           clear A560
           by_cases c57 : t415 = true
           · subst c57
             have H1 : (if t424 = true then (some (t421 == t398 && (t422 == t399 && (t423 == t400)))) else (some false)) = some r := by rw [if_pos rfl] at H; exact H
             clear H
             have H := H1
             clear H1
             by_cases c58 : t424 = true
             · subst c58
               have H1 : (some (t421 == t398 && (t422 == t399 && (t423 == t400)))) = some r := by rw [if_pos rfl] at H; exact H
               clear H
               have H := H1
               clear H1
               obtain rfl := Option.some.inj H
               try go_wp2
               have n0_ := Aside0.mk (Kd.R_drew HO_4.out)
               have n1_ := Aside0.mk (bkD BK397.out)
               have n2_ := Aside0.mk (bkD BK402.out)
               have n3_ := Aside0.mk (bkD BK407.out)
               have n4_ := Aside0.mk (bwD HB.out)
               clear HO_4
               clear BK397
               clear BK402
               clear BK407
               clear HB
               have HO_4 := n0_
               have BK397 := n1_
               have BK402 := n2_
               have BK407 := n3_
               have HB := n4_
               clear n0_ n1_ n2_ n3_ n4_
               have q60 : ((ji50) : Int) ≤ ((t394.length : Int) : Int) := of_decide_eq_true (by first | (with_reducible assumption) | assumption)
               obtain ⟨i060, hi060, _, hsz60, _⟩ := info_parts info40
               have hroom60 : t394.length ≤ co10 := (Kd.R_reads' HO_4.out).2.1
               have hC60 : Kd.C k40 _ Ao10 t394.length t394 := (Kd.R_reads' HO_4.out).2.2
               have hcut60 := cut_to (P := Try.prog) 30 40 .i64 Try.underlying30 hi060 Ao10 t394.length co10 (ji50) (of_decide_eq_true (by first | (with_reducible assumption) | assumption)) q60 hroom60
               have hr60 := Kd.C_take (m := ((ji50) : Int).toNat) hC60 (by omega)
               have hy60 : y408.length = ((ji50) : Int).toNat := (by rw [Ny408.out, List.length_take]; omega)
               rw [← Ny408.out] at hr60
               rw [← hy60] at hcut60
               have HR411 := Aside0.mk hr60
               have HC411 := Aside0.mk (show y408.length ≤ co10 from by omega)
               clear hr60 hC60 hroom60 hi060 hsz60
               have KY60 := Aside0.mk hy60
               clear hy60
               have KL60 := Aside0.mk (show ((ji50) : Int).toNat ≤ t394.length from by omega)
               replace q60 := eq_true q60
               refine start_ (n := 11) (S := fun w' => w'.cell? ⟨gb397, 0, none⟩ = some (.int .i64 t391) ∧ w'.cell? ⟨gb397, 1, none⟩ = some (.int .i64 t392) ∧ w'.cell? ⟨gb397, 2, none⟩ = some (.int .i64 t393)) (ds := []) #[false, false, false, false, false, false, false, false, false, false, false] (by kernel_rfl) rfl rfl ⟨(blk_cell BK397.out 0).trans rfl, (blk_cell BK397.out 1).trans rfl, (blk_cell BK397.out 2).trans rfl⟩ (fun hHeld => ?_); refine with_tabW laws_FnRunClockParts.tab9 laws_FnRunClockParts.bits9 (fun HT_ HW_ => ?_)
               generalize wc.drew = w59 at HO_4 BK397 BK402 BK407 HB HR411 hHeld ⊢
               refine pure_ (i := 1) (N := some 59) (v := ?_) (a' := ?_) #[false, true, false, false, false, false, false, false, false, false, false] rfl rfl (any_of HT_.out (by kernel_rfl)) (fun _ _ _ h => h) (Or.inl ⟨by rfl, ?_⟩) ?_ ?_
               rotate_left
               · intro w'
                 go_simp
                 with_reducible rfl
               rotate_left
               · simp only [Act.put, List.setIfInBounds_toArray, List.set_cons_zero, List.set_cons_succ, i64_w, i32_w]
                 rfl
               refine pure_ (i := 2) (N := some 60) (v := ?_) (a' := ?_) #[false, true, true, false, false, false, false, false, false, false, false] rfl rfl (any_of HT_.out (by kernel_rfl)) (fun _ _ _ h => h) (Or.inl ⟨by rfl, ?_⟩) ?_ ?_
               rotate_left
               · intro w'
                 go_simp
                 with_reducible rfl
               rotate_left
               · simp only [Act.put, List.setIfInBounds_toArray, List.set_cons_zero, List.set_cons_succ, i64_w, i32_w]
                 rfl
               refine pure_ (i := 3) (N := some 61) (v := ?_) (a' := ?_) #[false, true, true, true, false, false, false, false, false, false, false] rfl rfl (any_of HT_.out (by kernel_rfl)) (fun _ _ _ h => h) (Or.inl ⟨by rfl, ?_⟩) ?_ ?_
               rotate_left
               · intro w'
                 go_simp
                 with_reducible rfl
               rotate_left
               · simp only [Act.put, List.setIfInBounds_toArray, List.set_cons_zero, List.set_cons_succ, i64_w, i32_w]
                 rfl
               refine take_ (i := 0) (N := some 58) (v := ?_) (a' := ?_) #[true, true, true, true, false, false, false, false, false, false, false] rfl rfl (take_ofW HT_.out HW_.out (by kernel_rfl)) (fun _ _ _ h => h) (Or.inl ⟨by rfl, ?_⟩) hHeld ?_ ?_
               rotate_left
               · rintro w' ⟨s0, s1, s2⟩
                 go_simp
                 with_reducible rfl
               rotate_left
               · simp only [Act.put, List.setIfInBounds_toArray, List.set_cons_zero, List.set_cons_succ, i64_w, i32_w]
                 rfl
               refine join_ (σ := Nat) 2 #[true, true, true, true, true, true, true, true, true, false, false] (fun s_ => [(62, .tuple #[.agg #[.int .i64 t412, .int .i64 t413, .int .i64 t414], .bool true]), (10, .pointer (some ⟨s_, 0, none⟩)), (57, .tuple #[.agg #[.int .i64 t412, .int .i64 t413, .int .i64 t414], .bool true]), (63, .agg #[.int .i64 t412, .int .i64 t413, .int .i64 t414]), (64, .bool true)]) (fun s_ w' => (w'.cell? ⟨gb397, 0, none⟩ = some (.int .i64 t391) ∧ w'.cell? ⟨gb397, 1, none⟩ = some (.int .i64 t392) ∧ w'.cell? ⟨gb397, 2, none⟩ = some (.int .i64 t393)) ∧ (Kd.R k40 40 w' w.heap.size (fun _ => True) (.slice Ao10 t394.length co10) t394) ∧ (w'.heap[gb397]? = some (.cells #[.int .i64 t391, .int .i64 t392, .int .i64 t393] 26 (0, 0))) ∧ (w'.heap[gb402]? = some (.cells #[.int .i64 t398, .int .i64 t399, .int .i64 t400] 26 (0, 0))) ∧ (w'.heap[gb407]? = some (.cells #[.int .i64 t403, .int .i64 t404, .int .i64 t405] 26 (0, 0))) ∧ (w'.heap[s_]? = some (.cells #[.int .i64 0, .int .i64 0, .int .i64 0] 26 (0, 0))) ∧ (w.heap.size ≤ s_) ∧ (w.heap.size ≤ s_) ∧ (gb397 ≠ s_) ∧ (s_ ≠ gb397) ∧ (gb402 ≠ s_) ∧ (s_ ≠ gb402) ∧ (gb407 ≠ s_) ∧ (s_ ≠ gb407) ∧ (Below w.heap.size w w')) ?_ ?_
               rotate_left
               · intro hCont
                 refine two_ (i := 4) (j := 8) (Ni := some 62) (Nj := some 10) #[true, true, true, true, true, false, false, false, false, false, false] #[true, true, true, true, false, false, false, false, true, false, false] rfl rfl rfl rfl (two_of HT_.out (by kernel_rfl)) (by decide) (by decide) (fun K hK => ?_) (fun K hK => ?_)
                 · skip
                   refine goes_ Try.func11 (by kernel_rfl) rfl #[.agg #[.int .i64 t391, .int .i64 t392, .int .i64 t393], .slice Ao10 y408.length co10] (by rfl) rfl rfl (by (try simp only [List.map_toArray, List.map_cons, List.map_nil]); first | done | rfl | (simp only [List.length_drop, List.length_take]; rfl)) ?_
                   with_reducible refine (impl_RunClock.calls kj5 t391 t392 t393 _ _ y408 t412 t413 t414 true _ ?side1 ?side2 A53.out).mono ?_
                   (case side1 => repeat (first | exact (by repeat (first | (with_reducible exact HR411.out) | (with_reducible refine Kd.C_alloc ?_ _) | (with_reducible refine Kd.C_drewN ?_ _) | (with_reducible refine Kd.C_drew ?_) | exact HR411.out)) | (with_reducible refine Kd.C_alloc ?_ _) | (with_reducible refine Kd.C_drewN ?_ _) | (with_reducible refine Kd.C_drew ?_)))
                   (case side2 => exact HC411.out)
                   rintro e w61 ⟨rfl, hb⟩
                   refine ⟨_, rfl, ?_⟩
                   have n0_ := Aside0.mk (Kd.R_below (by (with_reducible repeat (first | apply Kd.R_alloc | apply Kd.R_drewN | apply Kd.R_drew)); exact HO_4.out) hb)
                   have n1_ := Aside0.mk (blk_below (g := gb397) (o := .cells #[.int .i64 t391, .int .i64 t392, .int .i64 t393] 26 (0, 0)) (by (with_reducible repeat (first | apply bkN | apply bkD | apply bkA)); exact BK397.out) hb)
                   have n2_ := Aside0.mk (blk_below (g := gb402) (o := .cells #[.int .i64 t398, .int .i64 t399, .int .i64 t400] 26 (0, 0)) (by (with_reducible repeat (first | apply bkN | apply bkD | apply bkA)); exact BK402.out) hb)
                   have n3_ := Aside0.mk (blk_below (g := gb407) (o := .cells #[.int .i64 t403, .int .i64 t404, .int .i64 t405] 26 (0, 0)) (by (with_reducible repeat (first | apply bkN | apply bkD | apply bkA)); exact BK407.out) hb)
                   have n4_ := Aside0.mk (Kd.C_below (by repeat (first | (with_reducible exact HR411.out) | (with_reducible refine Kd.C_alloc ?_ _) | (with_reducible refine Kd.C_drewN ?_ _) | (with_reducible refine Kd.C_drew ?_) | exact HR411.out)) hb)
                   have n5_ := Aside0.mk (below_step (by repeat (first | (with_reducible first | exact HB.out | apply bwA | apply bwN | apply bwD | refine bwS ?_ GE397.out | refine bwS ?_ GE402.out | refine bwS ?_ GE407.out) | exact HB.out)) hb)
                   clear HO_4
                   clear BK397
                   clear BK402
                   clear BK407
                   clear HR411
                   clear HB
                   have HO_4 := n0_
                   have BK397 := n1_
                   have BK402 := n2_
                   have BK407 := n3_
                   have HR411 := n4_
                   have HB := n5_
                   clear n0_ n1_ n2_ n3_ n4_ n5_
                   (try clear hb)
                   (try clear hb2)
                   (try clear hk)
                   (try clear hi)
                   refine hK.out _ _ ⟨(blk_cell BK397.out 0).trans rfl, (blk_cell BK397.out 1).trans rfl, (blk_cell BK397.out 2).trans rfl⟩ (fun hHeld => ?_)
                   clear hK K
                   refine norm_ (a' := ?_) ?_ ?_
                   rotate_left
                   · show Act.put _ (some 62) _ = _
                     simp only [Act.put, List.setIfInBounds_toArray, List.set_cons_zero, List.set_cons_succ, i64_w, i32_w]
                     rfl
                   refine pure_ (i := 5) (N := some 57) (v := ?_) (a' := ?_) #[true, true, true, true, true, true, false, false, false, false, false] rfl rfl (any_of HT_.out (by kernel_rfl)) (fun _ _ _ h => h) (Or.inl ⟨by rfl, ?_⟩) ?_ ?_
                   rotate_left
                   · intro w'
                     go_simp
                     with_reducible rfl
                   rotate_left
                   · simp only [Act.put, List.setIfInBounds_toArray, List.set_cons_zero, List.set_cons_succ, i64_w, i32_w]
                     rfl
                   refine pure_ (i := 6) (N := some 63) (v := ?_) (a' := ?_) #[true, true, true, true, true, true, true, false, false, false, false] rfl rfl (any_of HT_.out (by kernel_rfl)) (fun _ _ _ h => h) (Or.inl ⟨by rfl, ?_⟩) ?_ ?_
                   rotate_left
                   · intro w'
                     go_simp
                     with_reducible rfl
                   rotate_left
                   · simp only [Act.put, List.setIfInBounds_toArray, List.set_cons_zero, List.set_cons_succ, i64_w, i32_w]
                     rfl
                   refine pure_ (i := 7) (N := some 64) (v := ?_) (a' := ?_) #[true, true, true, true, true, true, true, true, false, false, false] rfl rfl (any_of HT_.out (by kernel_rfl)) (fun _ _ _ h => h) (Or.inl ⟨by rfl, ?_⟩) ?_ ?_
                   rotate_left
                   · intro w'
                     go_simp
                     with_reducible rfl
                   rotate_left
                   · simp only [Act.put, List.setIfInBounds_toArray, List.set_cons_zero, List.set_cons_succ, i64_w, i32_w]
                     rfl
                   refine one_ (i := 8) (N := some 10) #[true, true, true, true, true, true, true, true, true, false, false] rfl rfl (one_of HT_.out (by kernel_rfl)) (by decide) (fun K hK => ?_)
                   refine box_step ?hg (N := 10) ?hd (cs := #[.int .i64 0, .int .i64 0, .int .i64 0]) (t := 26) ?hr ?_; (case hd => rfl); (case hg => rfl); (case hr => first | (go_simp; done) | (go_simp; rfl))
                   intro gb416 hg w62 hbox hb
                   have n0_ := Aside0.mk (Kd.R_below (by (with_reducible repeat (first | apply Kd.R_alloc | apply Kd.R_drewN | apply Kd.R_drew)); exact HO_4.out) hb)
                   have n1_ := Aside0.mk (blk_below (g := gb397) (o := .cells #[.int .i64 t391, .int .i64 t392, .int .i64 t393] 26 (0, 0)) (by (with_reducible repeat (first | apply bkN | apply bkD | apply bkA)); exact BK397.out) hb)
                   have n2_ := Aside0.mk (blk_below (g := gb402) (o := .cells #[.int .i64 t398, .int .i64 t399, .int .i64 t400] 26 (0, 0)) (by (with_reducible repeat (first | apply bkN | apply bkD | apply bkA)); exact BK402.out) hb)
                   have n3_ := Aside0.mk (blk_below (g := gb407) (o := .cells #[.int .i64 t403, .int .i64 t404, .int .i64 t405] 26 (0, 0)) (by (with_reducible repeat (first | apply bkN | apply bkD | apply bkA)); exact BK407.out) hb)
                   have n4_ := Aside0.mk (Kd.C_below (by repeat (first | (with_reducible exact HR411.out) | (with_reducible refine Kd.C_alloc ?_ _) | (with_reducible refine Kd.C_drewN ?_ _) | (with_reducible refine Kd.C_drew ?_) | exact HR411.out)) hb)
                   have n5_ := Aside0.mk (below_step (by repeat (first | (with_reducible first | exact HB.out | apply bwA | apply bwN | apply bwD | refine bwS ?_ GE397.out | refine bwS ?_ GE402.out | refine bwS ?_ GE407.out) | exact HB.out)) hb)
                   have n6_ := Aside0.mk (hbox)
                   have n7_ := Aside0.mk ((by rw [hg]; exact (below_size (by repeat (first | (with_reducible first | exact HB.out | apply bwA | apply bwN | apply bwD | refine bwS ?_ GE397.out | refine bwS ?_ GE402.out | refine bwS ?_ GE407.out) | exact HB.out))) : w.heap.size ≤ gb416))
                   have n8_ := Aside0.mk ((by rw [hg]; exact (below_size (by repeat (first | (with_reducible first | exact HB.out | apply bwA | apply bwN | apply bwD | refine bwS ?_ GE397.out | refine bwS ?_ GE402.out | refine bwS ?_ GE407.out) | exact HB.out))) : w.heap.size ≤ gb416))
                   have n9_ := Aside0.mk ((by rw [hg]; exact Nat.ne_of_lt (blk_lt (g := gb397) (o := .cells #[.int .i64 t391, .int .i64 t392, .int .i64 t393] 26 (0, 0)) (by (with_reducible repeat (first | apply bkN | apply bkD | apply bkA)); exact BK397.out)) : gb397 ≠ gb416))
                   have n10_ := Aside0.mk ((by rw [hg]; exact Nat.ne_of_gt (blk_lt (g := gb397) (o := .cells #[.int .i64 t391, .int .i64 t392, .int .i64 t393] 26 (0, 0)) (by (with_reducible repeat (first | apply bkN | apply bkD | apply bkA)); exact BK397.out)) : gb416 ≠ gb397))
                   have n11_ := Aside0.mk ((by rw [hg]; exact Nat.ne_of_lt (blk_lt (g := gb402) (o := .cells #[.int .i64 t398, .int .i64 t399, .int .i64 t400] 26 (0, 0)) (by (with_reducible repeat (first | apply bkN | apply bkD | apply bkA)); exact BK402.out)) : gb402 ≠ gb416))
                   have n12_ := Aside0.mk ((by rw [hg]; exact Nat.ne_of_gt (blk_lt (g := gb402) (o := .cells #[.int .i64 t398, .int .i64 t399, .int .i64 t400] 26 (0, 0)) (by (with_reducible repeat (first | apply bkN | apply bkD | apply bkA)); exact BK402.out)) : gb416 ≠ gb402))
                   have n13_ := Aside0.mk ((by rw [hg]; exact Nat.ne_of_lt (blk_lt (g := gb407) (o := .cells #[.int .i64 t403, .int .i64 t404, .int .i64 t405] 26 (0, 0)) (by (with_reducible repeat (first | apply bkN | apply bkD | apply bkA)); exact BK407.out)) : gb407 ≠ gb416))
                   have n14_ := Aside0.mk ((by rw [hg]; exact Nat.ne_of_gt (blk_lt (g := gb407) (o := .cells #[.int .i64 t403, .int .i64 t404, .int .i64 t405] 26 (0, 0)) (by (with_reducible repeat (first | apply bkN | apply bkD | apply bkA)); exact BK407.out)) : gb416 ≠ gb407))
                   clear HO_4
                   clear BK397
                   clear BK402
                   clear BK407
                   clear HR411
                   clear HB
                   have HO_4 := n0_
                   have BK397 := n1_
                   have BK402 := n2_
                   have BK407 := n3_
                   have HR411 := n4_
                   have HB := n5_
                   have BK416 := n6_
                   have GW416 := n7_
                   have GE416 := n8_
                   have NB397_416 := n9_
                   have NB416_397 := n10_
                   have NB402_416 := n11_
                   have NB416_402 := n12_
                   have NB407_416 := n13_
                   have NB416_407 := n14_
                   clear n0_ n1_ n2_ n3_ n4_ n5_ n6_ n7_ n8_ n9_ n10_ n11_ n12_ n13_ n14_
                   clear hb hbox hg
                   refine hK.out _ _ ⟨(blk_cell BK397.out 0).trans rfl, (blk_cell BK397.out 1).trans rfl, (blk_cell BK397.out 2).trans rfl⟩ (fun hHeld => ?_)
                   clear hK K
                   refine norm_ (a' := ?_) ?_ ?_
                   rotate_left
                   · show Act.put _ (some 10) _ = _
                     simp only [Act.put, List.setIfInBounds_toArray, List.set_cons_zero, List.set_cons_succ, i64_w, i32_w]
                     rfl
                   exact norm_ (by simp only [putAll, Act.put, List.setIfInBounds_toArray, List.set_cons_zero, List.set_cons_succ]) (hCont (gb416) _ ⟨hHeld, (by (with_reducible repeat (first | apply Kd.R_alloc | apply Kd.R_drewN | apply Kd.R_drew)); exact HO_4.out), (by (with_reducible repeat (first | apply bkN | apply bkD | apply bkA)); exact BK397.out), (by (with_reducible repeat (first | apply bkN | apply bkD | apply bkA)); exact BK402.out), (by (with_reducible repeat (first | apply bkN | apply bkD | apply bkA)); exact BK407.out), (by (with_reducible repeat (first | apply bkN | apply bkD | apply bkA)); exact BK416.out), GW416.out, GE416.out, NB397_416.out, NB416_397.out, NB402_416.out, NB416_402.out, NB407_416.out, NB416_407.out, (by repeat (first | (with_reducible first | exact HB.out | apply bwA | apply bwN | apply bwD | refine bwS ?_ GE397.out | refine bwS ?_ GE402.out | refine bwS ?_ GE407.out | refine bwS ?_ GE416.out) | exact HB.out))⟩)
                 · skip
                   refine box_step ?hg (N := 10) ?hd (cs := #[.int .i64 0, .int .i64 0, .int .i64 0]) (t := 26) ?hr ?_; (case hd => rfl); (case hg => rfl); (case hr => first | (go_simp; done) | (go_simp; rfl))
                   intro gb416 hg w61 hbox hb
                   have n0_ := Aside0.mk (Kd.R_below (by (with_reducible repeat (first | apply Kd.R_alloc | apply Kd.R_drewN | apply Kd.R_drew)); exact HO_4.out) hb)
                   have n1_ := Aside0.mk (blk_below (g := gb397) (o := .cells #[.int .i64 t391, .int .i64 t392, .int .i64 t393] 26 (0, 0)) (by (with_reducible repeat (first | apply bkN | apply bkD | apply bkA)); exact BK397.out) hb)
                   have n2_ := Aside0.mk (blk_below (g := gb402) (o := .cells #[.int .i64 t398, .int .i64 t399, .int .i64 t400] 26 (0, 0)) (by (with_reducible repeat (first | apply bkN | apply bkD | apply bkA)); exact BK402.out) hb)
                   have n3_ := Aside0.mk (blk_below (g := gb407) (o := .cells #[.int .i64 t403, .int .i64 t404, .int .i64 t405] 26 (0, 0)) (by (with_reducible repeat (first | apply bkN | apply bkD | apply bkA)); exact BK407.out) hb)
                   have n4_ := Aside0.mk (Kd.C_below (by repeat (first | (with_reducible exact HR411.out) | (with_reducible refine Kd.C_alloc ?_ _) | (with_reducible refine Kd.C_drewN ?_ _) | (with_reducible refine Kd.C_drew ?_) | exact HR411.out)) hb)
                   have n5_ := Aside0.mk (below_step (by repeat (first | (with_reducible first | exact HB.out | apply bwA | apply bwN | apply bwD | refine bwS ?_ GE397.out | refine bwS ?_ GE402.out | refine bwS ?_ GE407.out) | exact HB.out)) hb)
                   have n6_ := Aside0.mk (hbox)
                   have n7_ := Aside0.mk ((by rw [hg]; exact (below_size (by repeat (first | (with_reducible first | exact HB.out | apply bwA | apply bwN | apply bwD | refine bwS ?_ GE397.out | refine bwS ?_ GE402.out | refine bwS ?_ GE407.out) | exact HB.out))) : w.heap.size ≤ gb416))
                   have n8_ := Aside0.mk ((by rw [hg]; exact (below_size (by repeat (first | (with_reducible first | exact HB.out | apply bwA | apply bwN | apply bwD | refine bwS ?_ GE397.out | refine bwS ?_ GE402.out | refine bwS ?_ GE407.out) | exact HB.out))) : w.heap.size ≤ gb416))
                   have n9_ := Aside0.mk ((by rw [hg]; exact Nat.ne_of_lt (blk_lt (g := gb397) (o := .cells #[.int .i64 t391, .int .i64 t392, .int .i64 t393] 26 (0, 0)) (by (with_reducible repeat (first | apply bkN | apply bkD | apply bkA)); exact BK397.out)) : gb397 ≠ gb416))
                   have n10_ := Aside0.mk ((by rw [hg]; exact Nat.ne_of_gt (blk_lt (g := gb397) (o := .cells #[.int .i64 t391, .int .i64 t392, .int .i64 t393] 26 (0, 0)) (by (with_reducible repeat (first | apply bkN | apply bkD | apply bkA)); exact BK397.out)) : gb416 ≠ gb397))
                   have n11_ := Aside0.mk ((by rw [hg]; exact Nat.ne_of_lt (blk_lt (g := gb402) (o := .cells #[.int .i64 t398, .int .i64 t399, .int .i64 t400] 26 (0, 0)) (by (with_reducible repeat (first | apply bkN | apply bkD | apply bkA)); exact BK402.out)) : gb402 ≠ gb416))
                   have n12_ := Aside0.mk ((by rw [hg]; exact Nat.ne_of_gt (blk_lt (g := gb402) (o := .cells #[.int .i64 t398, .int .i64 t399, .int .i64 t400] 26 (0, 0)) (by (with_reducible repeat (first | apply bkN | apply bkD | apply bkA)); exact BK402.out)) : gb416 ≠ gb402))
                   have n13_ := Aside0.mk ((by rw [hg]; exact Nat.ne_of_lt (blk_lt (g := gb407) (o := .cells #[.int .i64 t403, .int .i64 t404, .int .i64 t405] 26 (0, 0)) (by (with_reducible repeat (first | apply bkN | apply bkD | apply bkA)); exact BK407.out)) : gb407 ≠ gb416))
                   have n14_ := Aside0.mk ((by rw [hg]; exact Nat.ne_of_gt (blk_lt (g := gb407) (o := .cells #[.int .i64 t403, .int .i64 t404, .int .i64 t405] 26 (0, 0)) (by (with_reducible repeat (first | apply bkN | apply bkD | apply bkA)); exact BK407.out)) : gb416 ≠ gb407))
                   clear HO_4
                   clear BK397
                   clear BK402
                   clear BK407
                   clear HR411
                   clear HB
                   have HO_4 := n0_
                   have BK397 := n1_
                   have BK402 := n2_
                   have BK407 := n3_
                   have HR411 := n4_
                   have HB := n5_
                   have BK416 := n6_
                   have GW416 := n7_
                   have GE416 := n8_
                   have NB397_416 := n9_
                   have NB416_397 := n10_
                   have NB402_416 := n11_
                   have NB416_402 := n12_
                   have NB407_416 := n13_
                   have NB416_407 := n14_
                   clear n0_ n1_ n2_ n3_ n4_ n5_ n6_ n7_ n8_ n9_ n10_ n11_ n12_ n13_ n14_
                   clear hb hbox hg
                   refine hK.out _ _ ⟨(blk_cell BK397.out 0).trans rfl, (blk_cell BK397.out 1).trans rfl, (blk_cell BK397.out 2).trans rfl⟩ (fun hHeld => ?_)
                   clear hK K
                   refine norm_ (a' := ?_) ?_ ?_
                   rotate_left
                   · show Act.put _ (some 10) _ = _
                     simp only [Act.put, List.setIfInBounds_toArray, List.set_cons_zero, List.set_cons_succ, i64_w, i32_w]
                     rfl
                   refine one_ (i := 4) (N := some 62) #[true, true, true, true, true, false, false, false, true, false, false] rfl rfl (one_of HT_.out (by kernel_rfl)) (by decide) (fun K hK => ?_)
                   refine goes_ Try.func11 (by kernel_rfl) rfl #[.agg #[.int .i64 t391, .int .i64 t392, .int .i64 t393], .slice Ao10 y408.length co10] (by rfl) rfl rfl (by (try simp only [List.map_toArray, List.map_cons, List.map_nil]); first | done | rfl | (simp only [List.length_drop, List.length_take]; rfl)) ?_
                   with_reducible refine (impl_RunClock.calls kj5 t391 t392 t393 _ _ y408 t412 t413 t414 true _ ?side1 ?side2 A53.out).mono ?_
                   (case side1 => repeat (first | exact (by repeat (first | (with_reducible exact HR411.out) | (with_reducible refine Kd.C_alloc ?_ _) | (with_reducible refine Kd.C_drewN ?_ _) | (with_reducible refine Kd.C_drew ?_) | exact HR411.out)) | (with_reducible refine Kd.C_alloc ?_ _) | (with_reducible refine Kd.C_drewN ?_ _) | (with_reducible refine Kd.C_drew ?_)))
                   (case side2 => exact HC411.out)
                   rintro e w62 ⟨rfl, hb⟩
                   refine ⟨_, rfl, ?_⟩
                   have n0_ := Aside0.mk (Kd.R_below (by (with_reducible repeat (first | apply Kd.R_alloc | apply Kd.R_drewN | apply Kd.R_drew)); exact HO_4.out) hb)
                   have n1_ := Aside0.mk (blk_below (g := gb397) (o := .cells #[.int .i64 t391, .int .i64 t392, .int .i64 t393] 26 (0, 0)) (by (with_reducible repeat (first | apply bkN | apply bkD | apply bkA)); exact BK397.out) hb)
                   have n2_ := Aside0.mk (blk_below (g := gb402) (o := .cells #[.int .i64 t398, .int .i64 t399, .int .i64 t400] 26 (0, 0)) (by (with_reducible repeat (first | apply bkN | apply bkD | apply bkA)); exact BK402.out) hb)
                   have n3_ := Aside0.mk (blk_below (g := gb407) (o := .cells #[.int .i64 t403, .int .i64 t404, .int .i64 t405] 26 (0, 0)) (by (with_reducible repeat (first | apply bkN | apply bkD | apply bkA)); exact BK407.out) hb)
                   have n4_ := Aside0.mk (Kd.C_below (by repeat (first | (with_reducible exact HR411.out) | (with_reducible refine Kd.C_alloc ?_ _) | (with_reducible refine Kd.C_drewN ?_ _) | (with_reducible refine Kd.C_drew ?_) | exact HR411.out)) hb)
                   have n5_ := Aside0.mk (blk_below (g := gb416) (o := .cells #[.int .i64 0, .int .i64 0, .int .i64 0] 26 (0, 0)) (by (with_reducible repeat (first | apply bkN | apply bkD | apply bkA)); exact BK416.out) hb)
                   have n6_ := Aside0.mk (below_step (by repeat (first | (with_reducible first | exact HB.out | apply bwA | apply bwN | apply bwD | refine bwS ?_ GE397.out | refine bwS ?_ GE402.out | refine bwS ?_ GE407.out | refine bwS ?_ GE416.out) | exact HB.out)) hb)
                   clear HO_4
                   clear BK397
                   clear BK402
                   clear BK407
                   clear HR411
                   clear BK416
                   clear HB
                   have HO_4 := n0_
                   have BK397 := n1_
                   have BK402 := n2_
                   have BK407 := n3_
                   have HR411 := n4_
                   have BK416 := n5_
                   have HB := n6_
                   clear n0_ n1_ n2_ n3_ n4_ n5_ n6_
                   (try clear hb)
                   (try clear hb2)
                   (try clear hk)
                   (try clear hi)
                   refine hK.out _ _ ⟨(blk_cell BK397.out 0).trans rfl, (blk_cell BK397.out 1).trans rfl, (blk_cell BK397.out 2).trans rfl⟩ (fun hHeld => ?_)
                   clear hK K
                   refine norm_ (a' := ?_) ?_ ?_
                   rotate_left
                   · show Act.put _ (some 62) _ = _
                     simp only [Act.put, List.setIfInBounds_toArray, List.set_cons_zero, List.set_cons_succ, i64_w, i32_w]
                     rfl
                   refine pure_ (i := 5) (N := some 57) (v := ?_) (a' := ?_) #[true, true, true, true, true, true, false, false, true, false, false] rfl rfl (any_of HT_.out (by kernel_rfl)) (fun _ _ _ h => h) (Or.inl ⟨by rfl, ?_⟩) ?_ ?_
                   rotate_left
                   · intro w'
                     go_simp
                     with_reducible rfl
                   rotate_left
                   · simp only [Act.put, List.setIfInBounds_toArray, List.set_cons_zero, List.set_cons_succ, i64_w, i32_w]
                     rfl
                   refine pure_ (i := 6) (N := some 63) (v := ?_) (a' := ?_) #[true, true, true, true, true, true, true, false, true, false, false] rfl rfl (any_of HT_.out (by kernel_rfl)) (fun _ _ _ h => h) (Or.inl ⟨by rfl, ?_⟩) ?_ ?_
                   rotate_left
                   · intro w'
                     go_simp
                     with_reducible rfl
                   rotate_left
                   · simp only [Act.put, List.setIfInBounds_toArray, List.set_cons_zero, List.set_cons_succ, i64_w, i32_w]
                     rfl
                   refine pure_ (i := 7) (N := some 64) (v := ?_) (a' := ?_) #[true, true, true, true, true, true, true, true, true, false, false] rfl rfl (any_of HT_.out (by kernel_rfl)) (fun _ _ _ h => h) (Or.inl ⟨by rfl, ?_⟩) ?_ ?_
                   rotate_left
                   · intro w'
                     go_simp
                     with_reducible rfl
                   rotate_left
                   · simp only [Act.put, List.setIfInBounds_toArray, List.set_cons_zero, List.set_cons_succ, i64_w, i32_w]
                     rfl
                   exact norm_ (by simp only [putAll, Act.put, List.setIfInBounds_toArray, List.set_cons_zero, List.set_cons_succ]) (hCont (gb416) _ ⟨hHeld, (by (with_reducible repeat (first | apply Kd.R_alloc | apply Kd.R_drewN | apply Kd.R_drew)); exact HO_4.out), (by (with_reducible repeat (first | apply bkN | apply bkD | apply bkA)); exact BK397.out), (by (with_reducible repeat (first | apply bkN | apply bkD | apply bkA)); exact BK402.out), (by (with_reducible repeat (first | apply bkN | apply bkD | apply bkA)); exact BK407.out), (by (with_reducible repeat (first | apply bkN | apply bkD | apply bkA)); exact BK416.out), GW416.out, GE416.out, NB397_416.out, NB416_397.out, NB402_416.out, NB416_402.out, NB407_416.out, NB416_407.out, (by repeat (first | (with_reducible first | exact HB.out | apply bwA | apply bwN | apply bwD | refine bwS ?_ GE397.out | refine bwS ?_ GE402.out | refine bwS ?_ GE407.out | refine bwS ?_ GE416.out) | exact HB.out))⟩)
               rintro gb416 w63 ⟨hS_, h0_, h1_, h2_, h3_, h4_, h5_, h6_, h7_, h8_, h9_, h10_, h11_, h12_, h13_⟩
               have n0_ : Aside0 (Kd.R k40 40 w63 w.heap.size (fun _ => True) (.slice Ao10 t394.length co10) t394) := ⟨h0_⟩
               have n1_ : Aside0 (w63.heap[gb397]? = some (.cells #[.int .i64 t391, .int .i64 t392, .int .i64 t393] 26 (0, 0))) := ⟨h1_⟩
               have n2_ : Aside0 (w63.heap[gb402]? = some (.cells #[.int .i64 t398, .int .i64 t399, .int .i64 t400] 26 (0, 0))) := ⟨h2_⟩
               have n3_ : Aside0 (w63.heap[gb407]? = some (.cells #[.int .i64 t403, .int .i64 t404, .int .i64 t405] 26 (0, 0))) := ⟨h3_⟩
               have n4_ : Aside0 (w63.heap[gb416]? = some (.cells #[.int .i64 0, .int .i64 0, .int .i64 0] 26 (0, 0))) := ⟨h4_⟩
               have n5_ : Aside0 (w.heap.size ≤ gb416) := ⟨h5_⟩
               have n6_ : Aside0 (w.heap.size ≤ gb416) := ⟨h6_⟩
               have n7_ : Aside0 (gb397 ≠ gb416) := ⟨h7_⟩
               have n8_ : Aside0 (gb416 ≠ gb397) := ⟨h8_⟩
               have n9_ : Aside0 (gb402 ≠ gb416) := ⟨h9_⟩
               have n10_ : Aside0 (gb416 ≠ gb402) := ⟨h10_⟩
               have n11_ : Aside0 (gb407 ≠ gb416) := ⟨h11_⟩
               have n12_ : Aside0 (gb416 ≠ gb407) := ⟨h12_⟩
               have n13_ : Aside0 (Below w.heap.size w w63) := ⟨h13_⟩
               clear HO_4
               clear BK397
               clear BK402
               clear BK407
               clear HB
               clear h0_ h1_ h2_ h3_ h4_ h5_ h6_ h7_ h8_ h9_ h10_ h11_ h12_ h13_
               have HO_4 := n0_
               have BK397 := n1_
               have BK402 := n2_
               have BK407 := n3_
               have BK416 := n4_
               have GW416 := n5_
               have GE416 := n6_
               have NB397_416 := n7_
               have NB416_397 := n8_
               have NB402_416 := n9_
               have NB416_402 := n10_
               have NB407_416 := n11_
               have NB416_407 := n12_
               have HB := n13_
               clear n0_ n1_ n2_ n3_ n4_ n5_ n6_ n7_ n8_ n9_ n10_ n11_ n12_ n13_
               have hHeld : w63.cell? ⟨gb397, 0, none⟩ = some (.int .i64 t391) ∧ w63.cell? ⟨gb397, 1, none⟩ = some (.int .i64 t392) ∧ w63.cell? ⟨gb397, 2, none⟩ = some (.int .i64 t393) := hS_
               refine norm_ (a' := ?_) ?_ ?_
               rotate_left
               · simp only [putAll, Act.put, List.setIfInBounds_toArray, List.set_cons_zero, List.set_cons_succ]
                 rfl
               refine one_ (i := 9) (N := none) #[true, true, true, true, true, true, true, true, true, true, false] rfl rfl (one_of HT_.out (by kernel_rfl)) (by decide) (fun K hK => ?_)
               have hs64 : w63.cell? ⟨gb416, 0, none⟩ = some (.int .i64 0) := (blk_cell BK416.out 0).trans rfl
               have hfs64 := blk_frozen BK416.out 0
               have hns64_0 := NB397_416.out
               have hns64_1 := NB402_416.out
               have hns64_2 := NB407_416.out
               have hms64_0 := NB416_397.out
               have hms64_1 := NB416_402.out
               have hms64_2 := NB416_407.out
               have hs65 : w63.cell? ⟨gb416, 1, none⟩ = some (.int .i64 0) := (blk_cell BK416.out 1).trans rfl
               have hfs65 := blk_frozen BK416.out 1
               have hns65_0 := NB397_416.out
               have hns65_1 := NB402_416.out
               have hns65_2 := NB407_416.out
               have hms65_0 := NB416_397.out
               have hms65_1 := NB416_402.out
               have hms65_2 := NB416_407.out
               have hs66 : w63.cell? ⟨gb416, 2, none⟩ = some (.int .i64 0) := (blk_cell BK416.out 2).trans rfl
               have hfs66 := blk_frozen BK416.out 2
               have hns66_0 := NB397_416.out
               have hns66_1 := NB402_416.out
               have hns66_2 := NB407_416.out
               have hms66_0 := NB416_397.out
               have hms66_1 := NB416_402.out
               have hms66_2 := NB416_407.out
               refine skip_ (w1 := ?_) (by rfl) rfl ?_ ?_
               rotate_left
               · go_simp
                 rfl
               refine hK.out _ _ ⟨((cell_far (p := ⟨gb416, _, none⟩) NB397_416.out _).trans (((cell_far (p := ⟨gb416, _, none⟩) NB397_416.out _).trans (((cell_far (p := ⟨gb416, _, none⟩) NB397_416.out _).trans (hHeld.1)))))), ((cell_far (p := ⟨gb416, _, none⟩) NB397_416.out _).trans (((cell_far (p := ⟨gb416, _, none⟩) NB397_416.out _).trans (((cell_far (p := ⟨gb416, _, none⟩) NB397_416.out _).trans (hHeld.2.1)))))), ((cell_far (p := ⟨gb416, _, none⟩) NB397_416.out _).trans (((cell_far (p := ⟨gb416, _, none⟩) NB397_416.out _).trans (((cell_far (p := ⟨gb416, _, none⟩) NB397_416.out _).trans (hHeld.2.2))))))⟩ (fun hHeld => ?_)
               clear hK K
               refine pure_ (i := 10) (N := some 11) (v := ?_) (a' := ?_) #[true, true, true, true, true, true, true, true, true, true, true] rfl rfl (any_of HT_.out (by kernel_rfl)) (fun _ _ _ h => h) (Or.inl ⟨by rfl, ?_⟩) ?_ ?_
               rotate_left
               · intro w'
                 go_simp
                 with_reducible rfl
               rotate_left
               · simp only [Act.put, List.setIfInBounds_toArray, List.set_cons_zero, List.set_cons_succ, i64_w, i32_w]
                 rfl
               refine done_ (done_of HT_.out (by kernel_rfl)) ?_
               try go_wp2
               have n0_ : Aside0 (Kd.R k40 40 (((w63.setCell ⟨gb416, 0, none⟩ (.int .i64 t412)).setCell ⟨gb416, 1, none⟩ (.int .i64 t413)).setCell ⟨gb416, 2, none⟩ (.int .i64 t414)) w.heap.size (fun _ => True) (.slice Ao10 t394.length co10) t394) := ⟨by (with_reducible repeat (first | apply Kd.R_alloc | apply Kd.R_drewN | apply Kd.R_drew)); exact Kd.R_mono (Kd.R_far (p := ⟨gb416, 2, none⟩) (Kd.R_far (p := ⟨gb416, 1, none⟩) (Kd.R_far (p := ⟨gb416, 0, none⟩) (Kd.R_types HO_4.out BK416.out (by decide)) (fun _ hk => hk.2) (.int .i64 t412)) (fun _ hk => hk.2) (.int .i64 t413)) (fun _ hk => hk.2) (.int .i64 t414)) (fun _ hk => trivial)⟩
               have n1_ : Aside0 ((((w63.setCell ⟨gb416, 0, none⟩ (.int .i64 t412)).setCell ⟨gb416, 1, none⟩ (.int .i64 t413)).setCell ⟨gb416, 2, none⟩ (.int .i64 t414)).heap[gb397]? = some (.cells #[.int .i64 t391, .int .i64 t392, .int .i64 t393] 26 (0, 0))) := ⟨by (with_reducible repeat (first | apply bkN | apply bkD | apply bkA)); refine blk_far ?_ NB397_416.out _; (with_reducible repeat (first | apply bkN | apply bkD | apply bkA)); refine blk_far ?_ NB397_416.out _; (with_reducible repeat (first | apply bkN | apply bkD | apply bkA)); refine blk_far ?_ NB397_416.out _; (with_reducible repeat (first | apply bkN | apply bkD | apply bkA)); exact BK397.out⟩
               have n2_ : Aside0 ((((w63.setCell ⟨gb416, 0, none⟩ (.int .i64 t412)).setCell ⟨gb416, 1, none⟩ (.int .i64 t413)).setCell ⟨gb416, 2, none⟩ (.int .i64 t414)).heap[gb402]? = some (.cells #[.int .i64 t398, .int .i64 t399, .int .i64 t400] 26 (0, 0))) := ⟨by (with_reducible repeat (first | apply bkN | apply bkD | apply bkA)); refine blk_far ?_ NB402_416.out _; (with_reducible repeat (first | apply bkN | apply bkD | apply bkA)); refine blk_far ?_ NB402_416.out _; (with_reducible repeat (first | apply bkN | apply bkD | apply bkA)); refine blk_far ?_ NB402_416.out _; (with_reducible repeat (first | apply bkN | apply bkD | apply bkA)); exact BK402.out⟩
               have n3_ : Aside0 ((((w63.setCell ⟨gb416, 0, none⟩ (.int .i64 t412)).setCell ⟨gb416, 1, none⟩ (.int .i64 t413)).setCell ⟨gb416, 2, none⟩ (.int .i64 t414)).heap[gb407]? = some (.cells #[.int .i64 t403, .int .i64 t404, .int .i64 t405] 26 (0, 0))) := ⟨by (with_reducible repeat (first | apply bkN | apply bkD | apply bkA)); refine blk_far ?_ NB407_416.out _; (with_reducible repeat (first | apply bkN | apply bkD | apply bkA)); refine blk_far ?_ NB407_416.out _; (with_reducible repeat (first | apply bkN | apply bkD | apply bkA)); refine blk_far ?_ NB407_416.out _; (with_reducible repeat (first | apply bkN | apply bkD | apply bkA)); exact BK407.out⟩
               have n4_ : Aside0 ((((w63.setCell ⟨gb416, 0, none⟩ (.int .i64 t412)).setCell ⟨gb416, 1, none⟩ (.int .i64 t413)).setCell ⟨gb416, 2, none⟩ (.int .i64 t414)).heap[gb416]? = some (.cells #[.int .i64 t412, .int .i64 t413, .int .i64 t414] 26 (0, 0))) := ⟨by (with_reducible repeat (first | apply bkN | apply bkD | apply bkA)); refine blk_put (cs := #[.int .i64 t412, .int .i64 t413, .int .i64 0]) ?_ 2 _ rfl; (with_reducible repeat (first | apply bkN | apply bkD | apply bkA)); refine blk_put (cs := #[.int .i64 t412, .int .i64 0, .int .i64 0]) ?_ 1 _ rfl; (with_reducible repeat (first | apply bkN | apply bkD | apply bkA)); refine blk_put (cs := #[.int .i64 0, .int .i64 0, .int .i64 0]) ?_ 0 _ rfl; (with_reducible repeat (first | apply bkN | apply bkD | apply bkA)); exact BK416.out⟩
               have n5_ : Aside0 (Below w.heap.size w (((w63.setCell ⟨gb416, 0, none⟩ (.int .i64 t412)).setCell ⟨gb416, 1, none⟩ (.int .i64 t413)).setCell ⟨gb416, 2, none⟩ (.int .i64 t414))) := ⟨by repeat (first | (with_reducible first | exact HB.out | apply bwA | apply bwN | apply bwD | refine bwS ?_ GE397.out | refine bwS ?_ GE402.out | refine bwS ?_ GE407.out | refine bwS ?_ GE416.out) | exact HB.out)⟩
               (try clear HO_4)
               (try clear BK397)
               (try clear BK402)
               (try clear BK407)
               (try clear BK416)
               (try clear HB)
               generalize (((w63.setCell ⟨gb416, 0, none⟩ (.int .i64 t412)).setCell ⟨gb416, 1, none⟩ (.int .i64 t413)).setCell ⟨gb416, 2, none⟩ (.int .i64 t414)) = w67 at n0_ n1_ n2_ n3_ n4_ n5_ ⊢
               have HO_4 := n0_
               have BK397 := n1_
               have BK402 := n2_
               have BK407 := n3_
               have BK416 := n4_
               have HB := n5_
               clear n0_ n1_ n2_ n3_ n4_ n5_
               have n0_ := Aside0.mk (Kd.R_drew HO_4.out)
               have n1_ := Aside0.mk (bkD BK397.out)
               have n2_ := Aside0.mk (bkD BK402.out)
               have n3_ := Aside0.mk (bkD BK407.out)
               have n4_ := Aside0.mk (bkD BK416.out)
               have n5_ := Aside0.mk (bwD HB.out)
               clear HO_4
               clear BK397
               clear BK402
               clear BK407
               clear BK416
               clear HB
               have HO_4 := n0_
               have BK397 := n1_
               have BK402 := n2_
               have BK407 := n3_
               have BK416 := n4_
               have HB := n5_
               clear n0_ n1_ n2_ n3_ n4_ n5_
               have q69 : ((ji50) : Int) ≤ ((t394.length : Int) : Int) := of_decide_eq_true (by first | (with_reducible assumption) | assumption)
               obtain ⟨i069, hi069, _, hsz69, _⟩ := info_parts info40
               have hroom69 : t394.length ≤ co10 := (Kd.R_reads' HO_4.out).2.1
               have hC69 : Kd.C k40 _ Ao10 t394.length t394 := (Kd.R_reads' HO_4.out).2.2
               have q069 : (0 : Int) ≤ ((ji50) : Int) := of_decide_eq_true (by first | (with_reducible assumption) | assumption)
               have hcut69 := cut_from (P := Try.prog) 30 40 .i64 Try.underlying30 hi069 3 hsz69 Ao10 t394.length co10 (ji50) q069 q69
               have hr69 := Kd.C_drop (m := ((ji50) : Int).toNat) (c := co10) hC69 (by omega) hroom69
               obtain ⟨A69, hA69⟩ : ∃ A1, A1 = (if co10 = ((ji50) : Int).toNat then Ao10 else (Ao10 : Option Addr).map (·.add (((ji50) : Int).toNat * 3))) := ⟨_, rfl⟩
               obtain ⟨c69, hc69⟩ : ∃ c1, c1 = co10 - ((ji50) : Int).toNat := ⟨_, rfl⟩
               have hy69 : y417.length = t394.length - ((ji50) : Int).toNat := (by rw [Ny417.out, List.length_drop] <;> omega)
               rw [show (t394).drop ((ji50) : Int).toNat = y417 from Ny417.out.symm] at hr69
               replace hr69 : Kd.C k40 _ A69 y417.length y417 := (by rw [hA69]; exact hr69)
               rw [← hy69, ← hA69, ← hc69] at hcut69
               have HR420 := Aside0.mk hr69
               have HC420 := Aside0.mk (show y417.length ≤ c69 from by rw [hy69, hc69]; exact Nat.sub_le_sub_right hroom69 _)
               clear hr69 hC69 hroom69 hi069 hsz69 hc69
               have KY69 := Aside0.mk hy69
               have KA69 := Aside0.mk hA69
               clear hy69 hA69
               have KL69 := Aside0.mk (show ((ji50) : Int).toNat ≤ t394.length from by omega)
               replace q69 := eq_true q69
               refine start_ (n := 11) (S := fun w' => w'.cell? ⟨gb416, 0, none⟩ = some (.int .i64 t412) ∧ w'.cell? ⟨gb416, 1, none⟩ = some (.int .i64 t413) ∧ w'.cell? ⟨gb416, 2, none⟩ = some (.int .i64 t414)) (ds := []) #[false, false, false, false, false, false, false, false, false, false, false] (by kernel_rfl) rfl rfl ⟨(blk_cell BK416.out 0).trans rfl, (blk_cell BK416.out 1).trans rfl, (blk_cell BK416.out 2).trans rfl⟩ (fun hHeld => ?_); refine with_tabW laws_FnRunClockParts.tab10 laws_FnRunClockParts.bits10 (fun HT_ HW_ => ?_)
               generalize w67.drew = w68 at HO_4 BK397 BK402 BK407 BK416 HB HR420 hHeld ⊢
               refine pure_ (i := 1) (N := some 67) (v := ?_) (a' := ?_) #[false, true, false, false, false, false, false, false, false, false, false] rfl rfl (any_of HT_.out (by kernel_rfl)) (fun _ _ _ h => h) (Or.inl ⟨by rfl, ?_⟩) ?_ ?_
               rotate_left
               · intro w'
                 go_simp
                 with_reducible rfl
               rotate_left
               · simp only [Act.put, List.setIfInBounds_toArray, List.set_cons_zero, List.set_cons_succ, i64_w, i32_w]
                 rfl
               refine pure_ (i := 2) (N := some 68) (v := ?_) (a' := ?_) #[false, true, true, false, false, false, false, false, false, false, false] rfl rfl (any_of HT_.out (by kernel_rfl)) (fun _ _ _ h => h) (Or.inl ⟨by rfl, ?_⟩) ?_ ?_
               rotate_left
               · intro w'
                 go_simp
                 with_reducible rfl
               rotate_left
               · simp only [Act.put, List.setIfInBounds_toArray, List.set_cons_zero, List.set_cons_succ, i64_w, i32_w]
                 rfl
               refine pure_ (i := 3) (N := some 69) (v := ?_) (a' := ?_) #[false, true, true, true, false, false, false, false, false, false, false] rfl rfl (any_of HT_.out (by kernel_rfl)) (fun _ _ _ h => h) (Or.inl ⟨by rfl, ?_⟩) ?_ ?_
               rotate_left
               · intro w'
                 go_simp
                 with_reducible rfl
               rotate_left
               · simp only [Act.put, List.setIfInBounds_toArray, List.set_cons_zero, List.set_cons_succ, i64_w, i32_w]
                 rfl
               refine take_ (i := 0) (N := some 66) (v := ?_) (a' := ?_) #[true, true, true, true, false, false, false, false, false, false, false] rfl rfl (take_ofW HT_.out HW_.out (by kernel_rfl)) (fun _ _ _ h => h) (Or.inl ⟨by rfl, ?_⟩) hHeld ?_ ?_
               rotate_left
               · rintro w' ⟨s0, s1, s2⟩
                 go_simp
                 with_reducible rfl
               rotate_left
               · simp only [Act.put, List.setIfInBounds_toArray, List.set_cons_zero, List.set_cons_succ, i64_w, i32_w]
                 rfl
               refine join_ (σ := Nat) 2 #[true, true, true, true, true, true, true, true, true, false, false] (fun s_ => [(70, .tuple #[.agg #[.int .i64 t421, .int .i64 t422, .int .i64 t423], .bool true]), (12, .pointer (some ⟨s_, 0, none⟩)), (65, .tuple #[.agg #[.int .i64 t421, .int .i64 t422, .int .i64 t423], .bool true]), (71, .agg #[.int .i64 t421, .int .i64 t422, .int .i64 t423]), (72, .bool true)]) (fun s_ w' => (w'.cell? ⟨gb416, 0, none⟩ = some (.int .i64 t412) ∧ w'.cell? ⟨gb416, 1, none⟩ = some (.int .i64 t413) ∧ w'.cell? ⟨gb416, 2, none⟩ = some (.int .i64 t414)) ∧ (Kd.R k40 40 w' w.heap.size (fun _ => True) (.slice Ao10 t394.length co10) t394) ∧ (w'.heap[gb397]? = some (.cells #[.int .i64 t391, .int .i64 t392, .int .i64 t393] 26 (0, 0))) ∧ (w'.heap[gb402]? = some (.cells #[.int .i64 t398, .int .i64 t399, .int .i64 t400] 26 (0, 0))) ∧ (w'.heap[gb407]? = some (.cells #[.int .i64 t403, .int .i64 t404, .int .i64 t405] 26 (0, 0))) ∧ (w'.heap[gb416]? = some (.cells #[.int .i64 t412, .int .i64 t413, .int .i64 t414] 26 (0, 0))) ∧ (w'.heap[s_]? = some (.cells #[.int .i64 0, .int .i64 0, .int .i64 0] 26 (0, 0))) ∧ (w.heap.size ≤ s_) ∧ (w.heap.size ≤ s_) ∧ (gb397 ≠ s_) ∧ (s_ ≠ gb397) ∧ (gb402 ≠ s_) ∧ (s_ ≠ gb402) ∧ (gb407 ≠ s_) ∧ (s_ ≠ gb407) ∧ (gb416 ≠ s_) ∧ (s_ ≠ gb416) ∧ (Below w.heap.size w w')) ?_ ?_
               rotate_left
               · intro hCont
                 refine two_ (i := 4) (j := 8) (Ni := some 70) (Nj := some 12) #[true, true, true, true, true, false, false, false, false, false, false] #[true, true, true, true, false, false, false, false, true, false, false] rfl rfl rfl rfl (two_of HT_.out (by kernel_rfl)) (by decide) (by decide) (fun K hK => ?_) (fun K hK => ?_)
                 · skip
                   refine goes_ Try.func11 (by kernel_rfl) rfl #[.agg #[.int .i64 t412, .int .i64 t413, .int .i64 t414], .slice A69 y417.length c69] (by rfl) rfl rfl (by (try simp only [List.map_toArray, List.map_cons, List.map_nil]); first | done | rfl | (simp only [List.length_drop, List.length_take]; rfl)) ?_
                   with_reducible refine (impl_RunClock.calls kj5 t412 t413 t414 _ _ y417 t421 t422 t423 true _ ?side1 ?side2 A56.out).mono ?_
                   (case side1 => repeat (first | exact (by repeat (first | (with_reducible exact HR420.out) | (with_reducible refine Kd.C_alloc ?_ _) | (with_reducible refine Kd.C_drewN ?_ _) | (with_reducible refine Kd.C_drew ?_) | exact HR420.out)) | (with_reducible refine Kd.C_alloc ?_ _) | (with_reducible refine Kd.C_drewN ?_ _) | (with_reducible refine Kd.C_drew ?_)))
                   (case side2 => exact HC420.out)
                   rintro e w70 ⟨rfl, hb⟩
                   refine ⟨_, rfl, ?_⟩
                   have n0_ := Aside0.mk (Kd.R_below (by (with_reducible repeat (first | apply Kd.R_alloc | apply Kd.R_drewN | apply Kd.R_drew)); exact HO_4.out) hb)
                   have n1_ := Aside0.mk (blk_below (g := gb397) (o := .cells #[.int .i64 t391, .int .i64 t392, .int .i64 t393] 26 (0, 0)) (by (with_reducible repeat (first | apply bkN | apply bkD | apply bkA)); exact BK397.out) hb)
                   have n2_ := Aside0.mk (blk_below (g := gb402) (o := .cells #[.int .i64 t398, .int .i64 t399, .int .i64 t400] 26 (0, 0)) (by (with_reducible repeat (first | apply bkN | apply bkD | apply bkA)); exact BK402.out) hb)
                   have n3_ := Aside0.mk (blk_below (g := gb407) (o := .cells #[.int .i64 t403, .int .i64 t404, .int .i64 t405] 26 (0, 0)) (by (with_reducible repeat (first | apply bkN | apply bkD | apply bkA)); exact BK407.out) hb)
                   have n4_ := Aside0.mk (blk_below (g := gb416) (o := .cells #[.int .i64 t412, .int .i64 t413, .int .i64 t414] 26 (0, 0)) (by (with_reducible repeat (first | apply bkN | apply bkD | apply bkA)); exact BK416.out) hb)
                   have n5_ := Aside0.mk (Kd.C_below (by repeat (first | (with_reducible exact HR420.out) | (with_reducible refine Kd.C_alloc ?_ _) | (with_reducible refine Kd.C_drewN ?_ _) | (with_reducible refine Kd.C_drew ?_) | exact HR420.out)) hb)
                   have n6_ := Aside0.mk (below_step (by repeat (first | (with_reducible first | exact HB.out | apply bwA | apply bwN | apply bwD | refine bwS ?_ GE397.out | refine bwS ?_ GE402.out | refine bwS ?_ GE407.out | refine bwS ?_ GE416.out) | exact HB.out)) hb)
                   clear HO_4
                   clear BK397
                   clear BK402
                   clear BK407
                   clear BK416
                   clear HR420
                   clear HB
                   have HO_4 := n0_
                   have BK397 := n1_
                   have BK402 := n2_
                   have BK407 := n3_
                   have BK416 := n4_
                   have HR420 := n5_
                   have HB := n6_
                   clear n0_ n1_ n2_ n3_ n4_ n5_ n6_
                   (try clear hb)
                   (try clear hb2)
                   (try clear hk)
                   (try clear hi)
                   refine hK.out _ _ ⟨(blk_cell BK416.out 0).trans rfl, (blk_cell BK416.out 1).trans rfl, (blk_cell BK416.out 2).trans rfl⟩ (fun hHeld => ?_)
                   clear hK K
                   refine norm_ (a' := ?_) ?_ ?_
                   rotate_left
                   · show Act.put _ (some 70) _ = _
                     simp only [Act.put, List.setIfInBounds_toArray, List.set_cons_zero, List.set_cons_succ, i64_w, i32_w]
                     rfl
                   refine pure_ (i := 5) (N := some 65) (v := ?_) (a' := ?_) #[true, true, true, true, true, true, false, false, false, false, false] rfl rfl (any_of HT_.out (by kernel_rfl)) (fun _ _ _ h => h) (Or.inl ⟨by rfl, ?_⟩) ?_ ?_
                   rotate_left
                   · intro w'
                     go_simp
                     with_reducible rfl
                   rotate_left
                   · simp only [Act.put, List.setIfInBounds_toArray, List.set_cons_zero, List.set_cons_succ, i64_w, i32_w]
                     rfl
                   refine pure_ (i := 6) (N := some 71) (v := ?_) (a' := ?_) #[true, true, true, true, true, true, true, false, false, false, false] rfl rfl (any_of HT_.out (by kernel_rfl)) (fun _ _ _ h => h) (Or.inl ⟨by rfl, ?_⟩) ?_ ?_
                   rotate_left
                   · intro w'
                     go_simp
                     with_reducible rfl
                   rotate_left
                   · simp only [Act.put, List.setIfInBounds_toArray, List.set_cons_zero, List.set_cons_succ, i64_w, i32_w]
                     rfl
                   refine pure_ (i := 7) (N := some 72) (v := ?_) (a' := ?_) #[true, true, true, true, true, true, true, true, false, false, false] rfl rfl (any_of HT_.out (by kernel_rfl)) (fun _ _ _ h => h) (Or.inl ⟨by rfl, ?_⟩) ?_ ?_
                   rotate_left
                   · intro w'
                     go_simp
                     with_reducible rfl
                   rotate_left
                   · simp only [Act.put, List.setIfInBounds_toArray, List.set_cons_zero, List.set_cons_succ, i64_w, i32_w]
                     rfl
                   refine one_ (i := 8) (N := some 12) #[true, true, true, true, true, true, true, true, true, false, false] rfl rfl (one_of HT_.out (by kernel_rfl)) (by decide) (fun K hK => ?_)
                   refine box_step ?hg (N := 12) ?hd (cs := #[.int .i64 0, .int .i64 0, .int .i64 0]) (t := 26) ?hr ?_; (case hd => rfl); (case hg => rfl); (case hr => first | (go_simp; done) | (go_simp; rfl))
                   intro gb425 hg w71 hbox hb
                   have n0_ := Aside0.mk (Kd.R_below (by (with_reducible repeat (first | apply Kd.R_alloc | apply Kd.R_drewN | apply Kd.R_drew)); exact HO_4.out) hb)
                   have n1_ := Aside0.mk (blk_below (g := gb397) (o := .cells #[.int .i64 t391, .int .i64 t392, .int .i64 t393] 26 (0, 0)) (by (with_reducible repeat (first | apply bkN | apply bkD | apply bkA)); exact BK397.out) hb)
                   have n2_ := Aside0.mk (blk_below (g := gb402) (o := .cells #[.int .i64 t398, .int .i64 t399, .int .i64 t400] 26 (0, 0)) (by (with_reducible repeat (first | apply bkN | apply bkD | apply bkA)); exact BK402.out) hb)
                   have n3_ := Aside0.mk (blk_below (g := gb407) (o := .cells #[.int .i64 t403, .int .i64 t404, .int .i64 t405] 26 (0, 0)) (by (with_reducible repeat (first | apply bkN | apply bkD | apply bkA)); exact BK407.out) hb)
                   have n4_ := Aside0.mk (blk_below (g := gb416) (o := .cells #[.int .i64 t412, .int .i64 t413, .int .i64 t414] 26 (0, 0)) (by (with_reducible repeat (first | apply bkN | apply bkD | apply bkA)); exact BK416.out) hb)
                   have n5_ := Aside0.mk (Kd.C_below (by repeat (first | (with_reducible exact HR420.out) | (with_reducible refine Kd.C_alloc ?_ _) | (with_reducible refine Kd.C_drewN ?_ _) | (with_reducible refine Kd.C_drew ?_) | exact HR420.out)) hb)
                   have n6_ := Aside0.mk (below_step (by repeat (first | (with_reducible first | exact HB.out | apply bwA | apply bwN | apply bwD | refine bwS ?_ GE397.out | refine bwS ?_ GE402.out | refine bwS ?_ GE407.out | refine bwS ?_ GE416.out) | exact HB.out)) hb)
                   have n7_ := Aside0.mk (hbox)
                   have n8_ := Aside0.mk ((by rw [hg]; exact (below_size (by repeat (first | (with_reducible first | exact HB.out | apply bwA | apply bwN | apply bwD | refine bwS ?_ GE397.out | refine bwS ?_ GE402.out | refine bwS ?_ GE407.out | refine bwS ?_ GE416.out) | exact HB.out))) : w.heap.size ≤ gb425))
                   have n9_ := Aside0.mk ((by rw [hg]; exact (below_size (by repeat (first | (with_reducible first | exact HB.out | apply bwA | apply bwN | apply bwD | refine bwS ?_ GE397.out | refine bwS ?_ GE402.out | refine bwS ?_ GE407.out | refine bwS ?_ GE416.out) | exact HB.out))) : w.heap.size ≤ gb425))
                   have n10_ := Aside0.mk ((by rw [hg]; exact Nat.ne_of_lt (blk_lt (g := gb397) (o := .cells #[.int .i64 t391, .int .i64 t392, .int .i64 t393] 26 (0, 0)) (by (with_reducible repeat (first | apply bkN | apply bkD | apply bkA)); exact BK397.out)) : gb397 ≠ gb425))
                   have n11_ := Aside0.mk ((by rw [hg]; exact Nat.ne_of_gt (blk_lt (g := gb397) (o := .cells #[.int .i64 t391, .int .i64 t392, .int .i64 t393] 26 (0, 0)) (by (with_reducible repeat (first | apply bkN | apply bkD | apply bkA)); exact BK397.out)) : gb425 ≠ gb397))
                   have n12_ := Aside0.mk ((by rw [hg]; exact Nat.ne_of_lt (blk_lt (g := gb402) (o := .cells #[.int .i64 t398, .int .i64 t399, .int .i64 t400] 26 (0, 0)) (by (with_reducible repeat (first | apply bkN | apply bkD | apply bkA)); exact BK402.out)) : gb402 ≠ gb425))
                   have n13_ := Aside0.mk ((by rw [hg]; exact Nat.ne_of_gt (blk_lt (g := gb402) (o := .cells #[.int .i64 t398, .int .i64 t399, .int .i64 t400] 26 (0, 0)) (by (with_reducible repeat (first | apply bkN | apply bkD | apply bkA)); exact BK402.out)) : gb425 ≠ gb402))
                   have n14_ := Aside0.mk ((by rw [hg]; exact Nat.ne_of_lt (blk_lt (g := gb407) (o := .cells #[.int .i64 t403, .int .i64 t404, .int .i64 t405] 26 (0, 0)) (by (with_reducible repeat (first | apply bkN | apply bkD | apply bkA)); exact BK407.out)) : gb407 ≠ gb425))
                   have n15_ := Aside0.mk ((by rw [hg]; exact Nat.ne_of_gt (blk_lt (g := gb407) (o := .cells #[.int .i64 t403, .int .i64 t404, .int .i64 t405] 26 (0, 0)) (by (with_reducible repeat (first | apply bkN | apply bkD | apply bkA)); exact BK407.out)) : gb425 ≠ gb407))
                   have n16_ := Aside0.mk ((by rw [hg]; exact Nat.ne_of_lt (blk_lt (g := gb416) (o := .cells #[.int .i64 t412, .int .i64 t413, .int .i64 t414] 26 (0, 0)) (by (with_reducible repeat (first | apply bkN | apply bkD | apply bkA)); exact BK416.out)) : gb416 ≠ gb425))
                   have n17_ := Aside0.mk ((by rw [hg]; exact Nat.ne_of_gt (blk_lt (g := gb416) (o := .cells #[.int .i64 t412, .int .i64 t413, .int .i64 t414] 26 (0, 0)) (by (with_reducible repeat (first | apply bkN | apply bkD | apply bkA)); exact BK416.out)) : gb425 ≠ gb416))
                   clear HO_4
                   clear BK397
                   clear BK402
                   clear BK407
                   clear BK416
                   clear HR420
                   clear HB
                   have HO_4 := n0_
                   have BK397 := n1_
                   have BK402 := n2_
                   have BK407 := n3_
                   have BK416 := n4_
                   have HR420 := n5_
                   have HB := n6_
                   have BK425 := n7_
                   have GW425 := n8_
                   have GE425 := n9_
                   have NB397_425 := n10_
                   have NB425_397 := n11_
                   have NB402_425 := n12_
                   have NB425_402 := n13_
                   have NB407_425 := n14_
                   have NB425_407 := n15_
                   have NB416_425 := n16_
                   have NB425_416 := n17_
                   clear n0_ n1_ n2_ n3_ n4_ n5_ n6_ n7_ n8_ n9_ n10_ n11_ n12_ n13_ n14_ n15_ n16_ n17_
                   clear hb hbox hg
                   refine hK.out _ _ ⟨(blk_cell BK416.out 0).trans rfl, (blk_cell BK416.out 1).trans rfl, (blk_cell BK416.out 2).trans rfl⟩ (fun hHeld => ?_)
                   clear hK K
                   refine norm_ (a' := ?_) ?_ ?_
                   rotate_left
                   · show Act.put _ (some 12) _ = _
                     simp only [Act.put, List.setIfInBounds_toArray, List.set_cons_zero, List.set_cons_succ, i64_w, i32_w]
                     rfl
                   exact norm_ (by simp only [putAll, Act.put, List.setIfInBounds_toArray, List.set_cons_zero, List.set_cons_succ]) (hCont (gb425) _ ⟨hHeld, (by (with_reducible repeat (first | apply Kd.R_alloc | apply Kd.R_drewN | apply Kd.R_drew)); exact HO_4.out), (by (with_reducible repeat (first | apply bkN | apply bkD | apply bkA)); exact BK397.out), (by (with_reducible repeat (first | apply bkN | apply bkD | apply bkA)); exact BK402.out), (by (with_reducible repeat (first | apply bkN | apply bkD | apply bkA)); exact BK407.out), (by (with_reducible repeat (first | apply bkN | apply bkD | apply bkA)); exact BK416.out), (by (with_reducible repeat (first | apply bkN | apply bkD | apply bkA)); exact BK425.out), GW425.out, GE425.out, NB397_425.out, NB425_397.out, NB402_425.out, NB425_402.out, NB407_425.out, NB425_407.out, NB416_425.out, NB425_416.out, (by repeat (first | (with_reducible first | exact HB.out | apply bwA | apply bwN | apply bwD | refine bwS ?_ GE397.out | refine bwS ?_ GE402.out | refine bwS ?_ GE407.out | refine bwS ?_ GE416.out | refine bwS ?_ GE425.out) | exact HB.out))⟩)
                 · skip
                   refine box_step ?hg (N := 12) ?hd (cs := #[.int .i64 0, .int .i64 0, .int .i64 0]) (t := 26) ?hr ?_; (case hd => rfl); (case hg => rfl); (case hr => first | (go_simp; done) | (go_simp; rfl))
                   intro gb425 hg w70 hbox hb
                   have n0_ := Aside0.mk (Kd.R_below (by (with_reducible repeat (first | apply Kd.R_alloc | apply Kd.R_drewN | apply Kd.R_drew)); exact HO_4.out) hb)
                   have n1_ := Aside0.mk (blk_below (g := gb397) (o := .cells #[.int .i64 t391, .int .i64 t392, .int .i64 t393] 26 (0, 0)) (by (with_reducible repeat (first | apply bkN | apply bkD | apply bkA)); exact BK397.out) hb)
                   have n2_ := Aside0.mk (blk_below (g := gb402) (o := .cells #[.int .i64 t398, .int .i64 t399, .int .i64 t400] 26 (0, 0)) (by (with_reducible repeat (first | apply bkN | apply bkD | apply bkA)); exact BK402.out) hb)
                   have n3_ := Aside0.mk (blk_below (g := gb407) (o := .cells #[.int .i64 t403, .int .i64 t404, .int .i64 t405] 26 (0, 0)) (by (with_reducible repeat (first | apply bkN | apply bkD | apply bkA)); exact BK407.out) hb)
                   have n4_ := Aside0.mk (blk_below (g := gb416) (o := .cells #[.int .i64 t412, .int .i64 t413, .int .i64 t414] 26 (0, 0)) (by (with_reducible repeat (first | apply bkN | apply bkD | apply bkA)); exact BK416.out) hb)
                   have n5_ := Aside0.mk (Kd.C_below (by repeat (first | (with_reducible exact HR420.out) | (with_reducible refine Kd.C_alloc ?_ _) | (with_reducible refine Kd.C_drewN ?_ _) | (with_reducible refine Kd.C_drew ?_) | exact HR420.out)) hb)
                   have n6_ := Aside0.mk (below_step (by repeat (first | (with_reducible first | exact HB.out | apply bwA | apply bwN | apply bwD | refine bwS ?_ GE397.out | refine bwS ?_ GE402.out | refine bwS ?_ GE407.out | refine bwS ?_ GE416.out) | exact HB.out)) hb)
                   have n7_ := Aside0.mk (hbox)
                   have n8_ := Aside0.mk ((by rw [hg]; exact (below_size (by repeat (first | (with_reducible first | exact HB.out | apply bwA | apply bwN | apply bwD | refine bwS ?_ GE397.out | refine bwS ?_ GE402.out | refine bwS ?_ GE407.out | refine bwS ?_ GE416.out) | exact HB.out))) : w.heap.size ≤ gb425))
                   have n9_ := Aside0.mk ((by rw [hg]; exact (below_size (by repeat (first | (with_reducible first | exact HB.out | apply bwA | apply bwN | apply bwD | refine bwS ?_ GE397.out | refine bwS ?_ GE402.out | refine bwS ?_ GE407.out | refine bwS ?_ GE416.out) | exact HB.out))) : w.heap.size ≤ gb425))
                   have n10_ := Aside0.mk ((by rw [hg]; exact Nat.ne_of_lt (blk_lt (g := gb397) (o := .cells #[.int .i64 t391, .int .i64 t392, .int .i64 t393] 26 (0, 0)) (by (with_reducible repeat (first | apply bkN | apply bkD | apply bkA)); exact BK397.out)) : gb397 ≠ gb425))
                   have n11_ := Aside0.mk ((by rw [hg]; exact Nat.ne_of_gt (blk_lt (g := gb397) (o := .cells #[.int .i64 t391, .int .i64 t392, .int .i64 t393] 26 (0, 0)) (by (with_reducible repeat (first | apply bkN | apply bkD | apply bkA)); exact BK397.out)) : gb425 ≠ gb397))
                   have n12_ := Aside0.mk ((by rw [hg]; exact Nat.ne_of_lt (blk_lt (g := gb402) (o := .cells #[.int .i64 t398, .int .i64 t399, .int .i64 t400] 26 (0, 0)) (by (with_reducible repeat (first | apply bkN | apply bkD | apply bkA)); exact BK402.out)) : gb402 ≠ gb425))
                   have n13_ := Aside0.mk ((by rw [hg]; exact Nat.ne_of_gt (blk_lt (g := gb402) (o := .cells #[.int .i64 t398, .int .i64 t399, .int .i64 t400] 26 (0, 0)) (by (with_reducible repeat (first | apply bkN | apply bkD | apply bkA)); exact BK402.out)) : gb425 ≠ gb402))
                   have n14_ := Aside0.mk ((by rw [hg]; exact Nat.ne_of_lt (blk_lt (g := gb407) (o := .cells #[.int .i64 t403, .int .i64 t404, .int .i64 t405] 26 (0, 0)) (by (with_reducible repeat (first | apply bkN | apply bkD | apply bkA)); exact BK407.out)) : gb407 ≠ gb425))
                   have n15_ := Aside0.mk ((by rw [hg]; exact Nat.ne_of_gt (blk_lt (g := gb407) (o := .cells #[.int .i64 t403, .int .i64 t404, .int .i64 t405] 26 (0, 0)) (by (with_reducible repeat (first | apply bkN | apply bkD | apply bkA)); exact BK407.out)) : gb425 ≠ gb407))
                   have n16_ := Aside0.mk ((by rw [hg]; exact Nat.ne_of_lt (blk_lt (g := gb416) (o := .cells #[.int .i64 t412, .int .i64 t413, .int .i64 t414] 26 (0, 0)) (by (with_reducible repeat (first | apply bkN | apply bkD | apply bkA)); exact BK416.out)) : gb416 ≠ gb425))
                   have n17_ := Aside0.mk ((by rw [hg]; exact Nat.ne_of_gt (blk_lt (g := gb416) (o := .cells #[.int .i64 t412, .int .i64 t413, .int .i64 t414] 26 (0, 0)) (by (with_reducible repeat (first | apply bkN | apply bkD | apply bkA)); exact BK416.out)) : gb425 ≠ gb416))
                   clear HO_4
                   clear BK397
                   clear BK402
                   clear BK407
                   clear BK416
                   clear HR420
                   clear HB
                   have HO_4 := n0_
                   have BK397 := n1_
                   have BK402 := n2_
                   have BK407 := n3_
                   have BK416 := n4_
                   have HR420 := n5_
                   have HB := n6_
                   have BK425 := n7_
                   have GW425 := n8_
                   have GE425 := n9_
                   have NB397_425 := n10_
                   have NB425_397 := n11_
                   have NB402_425 := n12_
                   have NB425_402 := n13_
                   have NB407_425 := n14_
                   have NB425_407 := n15_
                   have NB416_425 := n16_
                   have NB425_416 := n17_
                   clear n0_ n1_ n2_ n3_ n4_ n5_ n6_ n7_ n8_ n9_ n10_ n11_ n12_ n13_ n14_ n15_ n16_ n17_
                   clear hb hbox hg
                   refine hK.out _ _ ⟨(blk_cell BK416.out 0).trans rfl, (blk_cell BK416.out 1).trans rfl, (blk_cell BK416.out 2).trans rfl⟩ (fun hHeld => ?_)
                   clear hK K
                   refine norm_ (a' := ?_) ?_ ?_
                   rotate_left
                   · show Act.put _ (some 12) _ = _
                     simp only [Act.put, List.setIfInBounds_toArray, List.set_cons_zero, List.set_cons_succ, i64_w, i32_w]
                     rfl
                   refine one_ (i := 4) (N := some 70) #[true, true, true, true, true, false, false, false, true, false, false] rfl rfl (one_of HT_.out (by kernel_rfl)) (by decide) (fun K hK => ?_)
                   refine goes_ Try.func11 (by kernel_rfl) rfl #[.agg #[.int .i64 t412, .int .i64 t413, .int .i64 t414], .slice A69 y417.length c69] (by rfl) rfl rfl (by (try simp only [List.map_toArray, List.map_cons, List.map_nil]); first | done | rfl | (simp only [List.length_drop, List.length_take]; rfl)) ?_
                   with_reducible refine (impl_RunClock.calls kj5 t412 t413 t414 _ _ y417 t421 t422 t423 true _ ?side1 ?side2 A56.out).mono ?_
                   (case side1 => repeat (first | exact (by repeat (first | (with_reducible exact HR420.out) | (with_reducible refine Kd.C_alloc ?_ _) | (with_reducible refine Kd.C_drewN ?_ _) | (with_reducible refine Kd.C_drew ?_) | exact HR420.out)) | (with_reducible refine Kd.C_alloc ?_ _) | (with_reducible refine Kd.C_drewN ?_ _) | (with_reducible refine Kd.C_drew ?_)))
                   (case side2 => exact HC420.out)
                   rintro e w71 ⟨rfl, hb⟩
                   refine ⟨_, rfl, ?_⟩
                   have n0_ := Aside0.mk (Kd.R_below (by (with_reducible repeat (first | apply Kd.R_alloc | apply Kd.R_drewN | apply Kd.R_drew)); exact HO_4.out) hb)
                   have n1_ := Aside0.mk (blk_below (g := gb397) (o := .cells #[.int .i64 t391, .int .i64 t392, .int .i64 t393] 26 (0, 0)) (by (with_reducible repeat (first | apply bkN | apply bkD | apply bkA)); exact BK397.out) hb)
                   have n2_ := Aside0.mk (blk_below (g := gb402) (o := .cells #[.int .i64 t398, .int .i64 t399, .int .i64 t400] 26 (0, 0)) (by (with_reducible repeat (first | apply bkN | apply bkD | apply bkA)); exact BK402.out) hb)
                   have n3_ := Aside0.mk (blk_below (g := gb407) (o := .cells #[.int .i64 t403, .int .i64 t404, .int .i64 t405] 26 (0, 0)) (by (with_reducible repeat (first | apply bkN | apply bkD | apply bkA)); exact BK407.out) hb)
                   have n4_ := Aside0.mk (blk_below (g := gb416) (o := .cells #[.int .i64 t412, .int .i64 t413, .int .i64 t414] 26 (0, 0)) (by (with_reducible repeat (first | apply bkN | apply bkD | apply bkA)); exact BK416.out) hb)
                   have n5_ := Aside0.mk (Kd.C_below (by repeat (first | (with_reducible exact HR420.out) | (with_reducible refine Kd.C_alloc ?_ _) | (with_reducible refine Kd.C_drewN ?_ _) | (with_reducible refine Kd.C_drew ?_) | exact HR420.out)) hb)
                   have n6_ := Aside0.mk (blk_below (g := gb425) (o := .cells #[.int .i64 0, .int .i64 0, .int .i64 0] 26 (0, 0)) (by (with_reducible repeat (first | apply bkN | apply bkD | apply bkA)); exact BK425.out) hb)
                   have n7_ := Aside0.mk (below_step (by repeat (first | (with_reducible first | exact HB.out | apply bwA | apply bwN | apply bwD | refine bwS ?_ GE397.out | refine bwS ?_ GE402.out | refine bwS ?_ GE407.out | refine bwS ?_ GE416.out | refine bwS ?_ GE425.out) | exact HB.out)) hb)
                   clear HO_4
                   clear BK397
                   clear BK402
                   clear BK407
                   clear BK416
                   clear HR420
                   clear BK425
                   clear HB
                   have HO_4 := n0_
                   have BK397 := n1_
                   have BK402 := n2_
                   have BK407 := n3_
                   have BK416 := n4_
                   have HR420 := n5_
                   have BK425 := n6_
                   have HB := n7_
                   clear n0_ n1_ n2_ n3_ n4_ n5_ n6_ n7_
                   (try clear hb)
                   (try clear hb2)
                   (try clear hk)
                   (try clear hi)
                   refine hK.out _ _ ⟨(blk_cell BK416.out 0).trans rfl, (blk_cell BK416.out 1).trans rfl, (blk_cell BK416.out 2).trans rfl⟩ (fun hHeld => ?_)
                   clear hK K
                   refine norm_ (a' := ?_) ?_ ?_
                   rotate_left
                   · show Act.put _ (some 70) _ = _
                     simp only [Act.put, List.setIfInBounds_toArray, List.set_cons_zero, List.set_cons_succ, i64_w, i32_w]
                     rfl
                   refine pure_ (i := 5) (N := some 65) (v := ?_) (a' := ?_) #[true, true, true, true, true, true, false, false, true, false, false] rfl rfl (any_of HT_.out (by kernel_rfl)) (fun _ _ _ h => h) (Or.inl ⟨by rfl, ?_⟩) ?_ ?_
                   rotate_left
                   · intro w'
                     go_simp
                     with_reducible rfl
                   rotate_left
                   · simp only [Act.put, List.setIfInBounds_toArray, List.set_cons_zero, List.set_cons_succ, i64_w, i32_w]
                     rfl
                   refine pure_ (i := 6) (N := some 71) (v := ?_) (a' := ?_) #[true, true, true, true, true, true, true, false, true, false, false] rfl rfl (any_of HT_.out (by kernel_rfl)) (fun _ _ _ h => h) (Or.inl ⟨by rfl, ?_⟩) ?_ ?_
                   rotate_left
                   · intro w'
                     go_simp
                     with_reducible rfl
                   rotate_left
                   · simp only [Act.put, List.setIfInBounds_toArray, List.set_cons_zero, List.set_cons_succ, i64_w, i32_w]
                     rfl
                   refine pure_ (i := 7) (N := some 72) (v := ?_) (a' := ?_) #[true, true, true, true, true, true, true, true, true, false, false] rfl rfl (any_of HT_.out (by kernel_rfl)) (fun _ _ _ h => h) (Or.inl ⟨by rfl, ?_⟩) ?_ ?_
                   rotate_left
                   · intro w'
                     go_simp
                     with_reducible rfl
                   rotate_left
                   · simp only [Act.put, List.setIfInBounds_toArray, List.set_cons_zero, List.set_cons_succ, i64_w, i32_w]
                     rfl
                   exact norm_ (by simp only [putAll, Act.put, List.setIfInBounds_toArray, List.set_cons_zero, List.set_cons_succ]) (hCont (gb425) _ ⟨hHeld, (by (with_reducible repeat (first | apply Kd.R_alloc | apply Kd.R_drewN | apply Kd.R_drew)); exact HO_4.out), (by (with_reducible repeat (first | apply bkN | apply bkD | apply bkA)); exact BK397.out), (by (with_reducible repeat (first | apply bkN | apply bkD | apply bkA)); exact BK402.out), (by (with_reducible repeat (first | apply bkN | apply bkD | apply bkA)); exact BK407.out), (by (with_reducible repeat (first | apply bkN | apply bkD | apply bkA)); exact BK416.out), (by (with_reducible repeat (first | apply bkN | apply bkD | apply bkA)); exact BK425.out), GW425.out, GE425.out, NB397_425.out, NB425_397.out, NB402_425.out, NB425_402.out, NB407_425.out, NB425_407.out, NB416_425.out, NB425_416.out, (by repeat (first | (with_reducible first | exact HB.out | apply bwA | apply bwN | apply bwD | refine bwS ?_ GE397.out | refine bwS ?_ GE402.out | refine bwS ?_ GE407.out | refine bwS ?_ GE416.out | refine bwS ?_ GE425.out) | exact HB.out))⟩)
               rintro gb425 w72 ⟨hS_, h0_, h1_, h2_, h3_, h4_, h5_, h6_, h7_, h8_, h9_, h10_, h11_, h12_, h13_, h14_, h15_, h16_⟩
               have n0_ : Aside0 (Kd.R k40 40 w72 w.heap.size (fun _ => True) (.slice Ao10 t394.length co10) t394) := ⟨h0_⟩
               have n1_ : Aside0 (w72.heap[gb397]? = some (.cells #[.int .i64 t391, .int .i64 t392, .int .i64 t393] 26 (0, 0))) := ⟨h1_⟩
               have n2_ : Aside0 (w72.heap[gb402]? = some (.cells #[.int .i64 t398, .int .i64 t399, .int .i64 t400] 26 (0, 0))) := ⟨h2_⟩
               have n3_ : Aside0 (w72.heap[gb407]? = some (.cells #[.int .i64 t403, .int .i64 t404, .int .i64 t405] 26 (0, 0))) := ⟨h3_⟩
               have n4_ : Aside0 (w72.heap[gb416]? = some (.cells #[.int .i64 t412, .int .i64 t413, .int .i64 t414] 26 (0, 0))) := ⟨h4_⟩
               have n5_ : Aside0 (w72.heap[gb425]? = some (.cells #[.int .i64 0, .int .i64 0, .int .i64 0] 26 (0, 0))) := ⟨h5_⟩
               have n6_ : Aside0 (w.heap.size ≤ gb425) := ⟨h6_⟩
               have n7_ : Aside0 (w.heap.size ≤ gb425) := ⟨h7_⟩
               have n8_ : Aside0 (gb397 ≠ gb425) := ⟨h8_⟩
               have n9_ : Aside0 (gb425 ≠ gb397) := ⟨h9_⟩
               have n10_ : Aside0 (gb402 ≠ gb425) := ⟨h10_⟩
               have n11_ : Aside0 (gb425 ≠ gb402) := ⟨h11_⟩
               have n12_ : Aside0 (gb407 ≠ gb425) := ⟨h12_⟩
               have n13_ : Aside0 (gb425 ≠ gb407) := ⟨h13_⟩
               have n14_ : Aside0 (gb416 ≠ gb425) := ⟨h14_⟩
               have n15_ : Aside0 (gb425 ≠ gb416) := ⟨h15_⟩
               have n16_ : Aside0 (Below w.heap.size w w72) := ⟨h16_⟩
               clear HO_4
               clear BK397
               clear BK402
               clear BK407
               clear BK416
               clear HB
               clear h0_ h1_ h2_ h3_ h4_ h5_ h6_ h7_ h8_ h9_ h10_ h11_ h12_ h13_ h14_ h15_ h16_
               have HO_4 := n0_
               have BK397 := n1_
               have BK402 := n2_
               have BK407 := n3_
               have BK416 := n4_
               have BK425 := n5_
               have GW425 := n6_
               have GE425 := n7_
               have NB397_425 := n8_
               have NB425_397 := n9_
               have NB402_425 := n10_
               have NB425_402 := n11_
               have NB407_425 := n12_
               have NB425_407 := n13_
               have NB416_425 := n14_
               have NB425_416 := n15_
               have HB := n16_
               clear n0_ n1_ n2_ n3_ n4_ n5_ n6_ n7_ n8_ n9_ n10_ n11_ n12_ n13_ n14_ n15_ n16_
               have hHeld : w72.cell? ⟨gb416, 0, none⟩ = some (.int .i64 t412) ∧ w72.cell? ⟨gb416, 1, none⟩ = some (.int .i64 t413) ∧ w72.cell? ⟨gb416, 2, none⟩ = some (.int .i64 t414) := hS_
               refine norm_ (a' := ?_) ?_ ?_
               rotate_left
               · simp only [putAll, Act.put, List.setIfInBounds_toArray, List.set_cons_zero, List.set_cons_succ]
                 rfl
               refine one_ (i := 9) (N := none) #[true, true, true, true, true, true, true, true, true, true, false] rfl rfl (one_of HT_.out (by kernel_rfl)) (by decide) (fun K hK => ?_)
               have hs73 : w72.cell? ⟨gb425, 0, none⟩ = some (.int .i64 0) := (blk_cell BK425.out 0).trans rfl
               have hfs73 := blk_frozen BK425.out 0
               have hns73_0 := NB397_425.out
               have hns73_1 := NB402_425.out
               have hns73_2 := NB407_425.out
               have hns73_3 := NB416_425.out
               have hms73_0 := NB425_397.out
               have hms73_1 := NB425_402.out
               have hms73_2 := NB425_407.out
               have hms73_3 := NB425_416.out
               have hs74 : w72.cell? ⟨gb425, 1, none⟩ = some (.int .i64 0) := (blk_cell BK425.out 1).trans rfl
               have hfs74 := blk_frozen BK425.out 1
               have hns74_0 := NB397_425.out
               have hns74_1 := NB402_425.out
               have hns74_2 := NB407_425.out
               have hns74_3 := NB416_425.out
               have hms74_0 := NB425_397.out
               have hms74_1 := NB425_402.out
               have hms74_2 := NB425_407.out
               have hms74_3 := NB425_416.out
               have hs75 : w72.cell? ⟨gb425, 2, none⟩ = some (.int .i64 0) := (blk_cell BK425.out 2).trans rfl
               have hfs75 := blk_frozen BK425.out 2
               have hns75_0 := NB397_425.out
               have hns75_1 := NB402_425.out
               have hns75_2 := NB407_425.out
               have hns75_3 := NB416_425.out
               have hms75_0 := NB425_397.out
               have hms75_1 := NB425_402.out
               have hms75_2 := NB425_407.out
               have hms75_3 := NB425_416.out
               refine skip_ (w1 := ?_) (by rfl) rfl ?_ ?_
               rotate_left
               · go_simp
                 rfl
               refine hK.out _ _ ⟨((cell_far (p := ⟨gb425, _, none⟩) NB416_425.out _).trans (((cell_far (p := ⟨gb425, _, none⟩) NB416_425.out _).trans (((cell_far (p := ⟨gb425, _, none⟩) NB416_425.out _).trans (hHeld.1)))))), ((cell_far (p := ⟨gb425, _, none⟩) NB416_425.out _).trans (((cell_far (p := ⟨gb425, _, none⟩) NB416_425.out _).trans (((cell_far (p := ⟨gb425, _, none⟩) NB416_425.out _).trans (hHeld.2.1)))))), ((cell_far (p := ⟨gb425, _, none⟩) NB416_425.out _).trans (((cell_far (p := ⟨gb425, _, none⟩) NB416_425.out _).trans (((cell_far (p := ⟨gb425, _, none⟩) NB416_425.out _).trans (hHeld.2.2))))))⟩ (fun hHeld => ?_)
               clear hK K
               refine pure_ (i := 10) (N := some 13) (v := ?_) (a' := ?_) #[true, true, true, true, true, true, true, true, true, true, true] rfl rfl (any_of HT_.out (by kernel_rfl)) (fun _ _ _ h => h) (Or.inl ⟨by rfl, ?_⟩) ?_ ?_
               rotate_left
               · intro w'
                 go_simp
                 with_reducible rfl
               rotate_left
               · simp only [Act.put, List.setIfInBounds_toArray, List.set_cons_zero, List.set_cons_succ, i64_w, i32_w]
                 rfl
               refine done_ (done_of HT_.out (by kernel_rfl)) ?_
               have hnb76 := NB425_397.out
               have hnc76 := NB397_425.out
               have hnb77 := NB425_402.out
               have hnc77 := NB402_425.out
               have hnb78 := NB425_407.out
               have hnc78 := NB407_425.out
               have hnb79 := NB425_416.out
               have hnc79 := NB416_425.out
               have hcz80_0 : w72.cell? ⟨gb425, 0, none⟩ = some (.int .i64 0) := (blk_cell BK425.out 0).trans rfl
               have hcz80_1 : w72.cell? ⟨gb425, 1, none⟩ = some (.int .i64 0) := (blk_cell BK425.out 1).trans rfl
               have hcz80_2 : w72.cell? ⟨gb425, 2, none⟩ = some (.int .i64 0) := (blk_cell BK425.out 2).trans rfl
               have hfz80_0 := blk_frozen BK425.out 0
               have hfz80_1 := blk_frozen BK425.out 1
               have hfz80_2 := blk_frozen BK425.out 2
               have hnb81 := NB402_397.out
               have hnc81 := NB397_402.out
               have hnb82 := NB402_407.out
               have hnc82 := NB407_402.out
               have hnb83 := NB402_416.out
               have hnc83 := NB416_402.out
               have hcz84_0 : w72.cell? ⟨gb402, 0, none⟩ = some (.int .i64 t398) := (blk_cell BK402.out 0).trans rfl
               have hcz84_1 : w72.cell? ⟨gb402, 1, none⟩ = some (.int .i64 t399) := (blk_cell BK402.out 1).trans rfl
               have hcz84_2 : w72.cell? ⟨gb402, 2, none⟩ = some (.int .i64 t400) := (blk_cell BK402.out 2).trans rfl
               have hfz84_0 := blk_frozen BK402.out 0
               have hfz84_1 := blk_frozen BK402.out 1
               have hfz84_2 := blk_frozen BK402.out 2
               try go_wp2
               go_ret
               exact ⟨by first | rfl | (simp [errW_none, errW_some] <;> rfl) | (simp only [← hji50]; first | rfl | (simp [errW_none, errW_some] <;> rfl)) | (simp [*, errW_none, errW_some] <;> rfl), by repeat (first | (with_reducible first | exact HB.out | apply bwA | apply bwN | apply bwD | refine bwS ?_ GE397.out | refine bwS ?_ GE402.out | refine bwS ?_ GE407.out | refine bwS ?_ GE416.out | refine bwS ?_ GE425.out) | exact HB.out)⟩
             · replace c58 := Bool.eq_false_iff.mpr c58
               subst c58
               have H1 : (some false) = some r := by rw [if_neg (show ¬ (false = true) by decide)] at H; exact H
               clear H
               have H := H1
               clear H1
               obtain rfl := Option.some.inj H
               try go_wp2
               have n0_ := Aside0.mk (Kd.R_drew HO_4.out)
               have n1_ := Aside0.mk (bkD BK397.out)
               have n2_ := Aside0.mk (bkD BK402.out)
               have n3_ := Aside0.mk (bkD BK407.out)
               have n4_ := Aside0.mk (bwD HB.out)
               clear HO_4
               clear BK397
               clear BK402
               clear BK407
               clear HB
               have HO_4 := n0_
               have BK397 := n1_
               have BK402 := n2_
               have BK407 := n3_
               have HB := n4_
               clear n0_ n1_ n2_ n3_ n4_
               have q86 : ((ji50) : Int) ≤ ((t394.length : Int) : Int) := of_decide_eq_true (by first | (with_reducible assumption) | assumption)
               obtain ⟨i086, hi086, _, hsz86, _⟩ := info_parts info40
               have hroom86 : t394.length ≤ co10 := (Kd.R_reads' HO_4.out).2.1
               have hC86 : Kd.C k40 _ Ao10 t394.length t394 := (Kd.R_reads' HO_4.out).2.2
               have hcut86 := cut_to (P := Try.prog) 30 40 .i64 Try.underlying30 hi086 Ao10 t394.length co10 (ji50) (of_decide_eq_true (by first | (with_reducible assumption) | assumption)) q86 hroom86
               have hr86 := Kd.C_take (m := ((ji50) : Int).toNat) hC86 (by omega)
               have hy86 : y408.length = ((ji50) : Int).toNat := (by rw [Ny408.out, List.length_take]; omega)
               rw [← Ny408.out] at hr86
               rw [← hy86] at hcut86
               have HR411 := Aside0.mk hr86
               have HC411 := Aside0.mk (show y408.length ≤ co10 from by omega)
               clear hr86 hC86 hroom86 hi086 hsz86
               have KY86 := Aside0.mk hy86
               clear hy86
               have KL86 := Aside0.mk (show ((ji50) : Int).toNat ≤ t394.length from by omega)
               replace q86 := eq_true q86
               refine start_ (n := 11) (S := fun w' => w'.cell? ⟨gb397, 0, none⟩ = some (.int .i64 t391) ∧ w'.cell? ⟨gb397, 1, none⟩ = some (.int .i64 t392) ∧ w'.cell? ⟨gb397, 2, none⟩ = some (.int .i64 t393)) (ds := []) #[false, false, false, false, false, false, false, false, false, false, false] (by kernel_rfl) rfl rfl ⟨(blk_cell BK397.out 0).trans rfl, (blk_cell BK397.out 1).trans rfl, (blk_cell BK397.out 2).trans rfl⟩ (fun hHeld => ?_); refine with_tabW laws_FnRunClockParts.tab9 laws_FnRunClockParts.bits9 (fun HT_ HW_ => ?_)
               generalize wc.drew = w85 at HO_4 BK397 BK402 BK407 HB HR411 hHeld ⊢
               refine pure_ (i := 1) (N := some 59) (v := ?_) (a' := ?_) #[false, true, false, false, false, false, false, false, false, false, false] rfl rfl (any_of HT_.out (by kernel_rfl)) (fun _ _ _ h => h) (Or.inl ⟨by rfl, ?_⟩) ?_ ?_
               rotate_left
               · intro w'
                 go_simp
                 with_reducible rfl
               rotate_left
               · simp only [Act.put, List.setIfInBounds_toArray, List.set_cons_zero, List.set_cons_succ, i64_w, i32_w]
                 rfl
               refine pure_ (i := 2) (N := some 60) (v := ?_) (a' := ?_) #[false, true, true, false, false, false, false, false, false, false, false] rfl rfl (any_of HT_.out (by kernel_rfl)) (fun _ _ _ h => h) (Or.inl ⟨by rfl, ?_⟩) ?_ ?_
               rotate_left
               · intro w'
                 go_simp
                 with_reducible rfl
               rotate_left
               · simp only [Act.put, List.setIfInBounds_toArray, List.set_cons_zero, List.set_cons_succ, i64_w, i32_w]
                 rfl
               refine pure_ (i := 3) (N := some 61) (v := ?_) (a' := ?_) #[false, true, true, true, false, false, false, false, false, false, false] rfl rfl (any_of HT_.out (by kernel_rfl)) (fun _ _ _ h => h) (Or.inl ⟨by rfl, ?_⟩) ?_ ?_
               rotate_left
               · intro w'
                 go_simp
                 with_reducible rfl
               rotate_left
               · simp only [Act.put, List.setIfInBounds_toArray, List.set_cons_zero, List.set_cons_succ, i64_w, i32_w]
                 rfl
               refine take_ (i := 0) (N := some 58) (v := ?_) (a' := ?_) #[true, true, true, true, false, false, false, false, false, false, false] rfl rfl (take_ofW HT_.out HW_.out (by kernel_rfl)) (fun _ _ _ h => h) (Or.inl ⟨by rfl, ?_⟩) hHeld ?_ ?_
               rotate_left
               · rintro w' ⟨s0, s1, s2⟩
                 go_simp
                 with_reducible rfl
               rotate_left
               · simp only [Act.put, List.setIfInBounds_toArray, List.set_cons_zero, List.set_cons_succ, i64_w, i32_w]
                 rfl
               refine join_ (σ := Nat) 2 #[true, true, true, true, true, true, true, true, true, false, false] (fun s_ => [(62, .tuple #[.agg #[.int .i64 t412, .int .i64 t413, .int .i64 t414], .bool true]), (10, .pointer (some ⟨s_, 0, none⟩)), (57, .tuple #[.agg #[.int .i64 t412, .int .i64 t413, .int .i64 t414], .bool true]), (63, .agg #[.int .i64 t412, .int .i64 t413, .int .i64 t414]), (64, .bool true)]) (fun s_ w' => (w'.cell? ⟨gb397, 0, none⟩ = some (.int .i64 t391) ∧ w'.cell? ⟨gb397, 1, none⟩ = some (.int .i64 t392) ∧ w'.cell? ⟨gb397, 2, none⟩ = some (.int .i64 t393)) ∧ (Kd.R k40 40 w' w.heap.size (fun _ => True) (.slice Ao10 t394.length co10) t394) ∧ (w'.heap[gb397]? = some (.cells #[.int .i64 t391, .int .i64 t392, .int .i64 t393] 26 (0, 0))) ∧ (w'.heap[gb402]? = some (.cells #[.int .i64 t398, .int .i64 t399, .int .i64 t400] 26 (0, 0))) ∧ (w'.heap[gb407]? = some (.cells #[.int .i64 t403, .int .i64 t404, .int .i64 t405] 26 (0, 0))) ∧ (w'.heap[s_]? = some (.cells #[.int .i64 0, .int .i64 0, .int .i64 0] 26 (0, 0))) ∧ (w.heap.size ≤ s_) ∧ (w.heap.size ≤ s_) ∧ (gb397 ≠ s_) ∧ (s_ ≠ gb397) ∧ (gb402 ≠ s_) ∧ (s_ ≠ gb402) ∧ (gb407 ≠ s_) ∧ (s_ ≠ gb407) ∧ (Below w.heap.size w w')) ?_ ?_
               rotate_left
               · intro hCont
                 refine two_ (i := 4) (j := 8) (Ni := some 62) (Nj := some 10) #[true, true, true, true, true, false, false, false, false, false, false] #[true, true, true, true, false, false, false, false, true, false, false] rfl rfl rfl rfl (two_of HT_.out (by kernel_rfl)) (by decide) (by decide) (fun K hK => ?_) (fun K hK => ?_)
                 · skip
                   refine goes_ Try.func11 (by kernel_rfl) rfl #[.agg #[.int .i64 t391, .int .i64 t392, .int .i64 t393], .slice Ao10 y408.length co10] (by rfl) rfl rfl (by (try simp only [List.map_toArray, List.map_cons, List.map_nil]); first | done | rfl | (simp only [List.length_drop, List.length_take]; rfl)) ?_
                   with_reducible refine (impl_RunClock.calls kj5 t391 t392 t393 _ _ y408 t412 t413 t414 true _ ?side1 ?side2 A53.out).mono ?_
                   (case side1 => repeat (first | exact (by repeat (first | (with_reducible exact HR411.out) | (with_reducible refine Kd.C_alloc ?_ _) | (with_reducible refine Kd.C_drewN ?_ _) | (with_reducible refine Kd.C_drew ?_) | exact HR411.out)) | (with_reducible refine Kd.C_alloc ?_ _) | (with_reducible refine Kd.C_drewN ?_ _) | (with_reducible refine Kd.C_drew ?_)))
                   (case side2 => exact HC411.out)
                   rintro e w87 ⟨rfl, hb⟩
                   refine ⟨_, rfl, ?_⟩
                   have n0_ := Aside0.mk (Kd.R_below (by (with_reducible repeat (first | apply Kd.R_alloc | apply Kd.R_drewN | apply Kd.R_drew)); exact HO_4.out) hb)
                   have n1_ := Aside0.mk (blk_below (g := gb397) (o := .cells #[.int .i64 t391, .int .i64 t392, .int .i64 t393] 26 (0, 0)) (by (with_reducible repeat (first | apply bkN | apply bkD | apply bkA)); exact BK397.out) hb)
                   have n2_ := Aside0.mk (blk_below (g := gb402) (o := .cells #[.int .i64 t398, .int .i64 t399, .int .i64 t400] 26 (0, 0)) (by (with_reducible repeat (first | apply bkN | apply bkD | apply bkA)); exact BK402.out) hb)
                   have n3_ := Aside0.mk (blk_below (g := gb407) (o := .cells #[.int .i64 t403, .int .i64 t404, .int .i64 t405] 26 (0, 0)) (by (with_reducible repeat (first | apply bkN | apply bkD | apply bkA)); exact BK407.out) hb)
                   have n4_ := Aside0.mk (Kd.C_below (by repeat (first | (with_reducible exact HR411.out) | (with_reducible refine Kd.C_alloc ?_ _) | (with_reducible refine Kd.C_drewN ?_ _) | (with_reducible refine Kd.C_drew ?_) | exact HR411.out)) hb)
                   have n5_ := Aside0.mk (below_step (by repeat (first | (with_reducible first | exact HB.out | apply bwA | apply bwN | apply bwD | refine bwS ?_ GE397.out | refine bwS ?_ GE402.out | refine bwS ?_ GE407.out) | exact HB.out)) hb)
                   clear HO_4
                   clear BK397
                   clear BK402
                   clear BK407
                   clear HR411
                   clear HB
                   have HO_4 := n0_
                   have BK397 := n1_
                   have BK402 := n2_
                   have BK407 := n3_
                   have HR411 := n4_
                   have HB := n5_
                   clear n0_ n1_ n2_ n3_ n4_ n5_
                   (try clear hb)
                   (try clear hb2)
                   (try clear hk)
                   (try clear hi)
                   refine hK.out _ _ ⟨(blk_cell BK397.out 0).trans rfl, (blk_cell BK397.out 1).trans rfl, (blk_cell BK397.out 2).trans rfl⟩ (fun hHeld => ?_)
                   clear hK K
                   refine norm_ (a' := ?_) ?_ ?_
                   rotate_left
                   · show Act.put _ (some 62) _ = _
                     simp only [Act.put, List.setIfInBounds_toArray, List.set_cons_zero, List.set_cons_succ, i64_w, i32_w]
                     rfl
                   refine pure_ (i := 5) (N := some 57) (v := ?_) (a' := ?_) #[true, true, true, true, true, true, false, false, false, false, false] rfl rfl (any_of HT_.out (by kernel_rfl)) (fun _ _ _ h => h) (Or.inl ⟨by rfl, ?_⟩) ?_ ?_
                   rotate_left
                   · intro w'
                     go_simp
                     with_reducible rfl
                   rotate_left
                   · simp only [Act.put, List.setIfInBounds_toArray, List.set_cons_zero, List.set_cons_succ, i64_w, i32_w]
                     rfl
                   refine pure_ (i := 6) (N := some 63) (v := ?_) (a' := ?_) #[true, true, true, true, true, true, true, false, false, false, false] rfl rfl (any_of HT_.out (by kernel_rfl)) (fun _ _ _ h => h) (Or.inl ⟨by rfl, ?_⟩) ?_ ?_
                   rotate_left
                   · intro w'
                     go_simp
                     with_reducible rfl
                   rotate_left
                   · simp only [Act.put, List.setIfInBounds_toArray, List.set_cons_zero, List.set_cons_succ, i64_w, i32_w]
                     rfl
                   refine pure_ (i := 7) (N := some 64) (v := ?_) (a' := ?_) #[true, true, true, true, true, true, true, true, false, false, false] rfl rfl (any_of HT_.out (by kernel_rfl)) (fun _ _ _ h => h) (Or.inl ⟨by rfl, ?_⟩) ?_ ?_
                   rotate_left
                   · intro w'
                     go_simp
                     with_reducible rfl
                   rotate_left
                   · simp only [Act.put, List.setIfInBounds_toArray, List.set_cons_zero, List.set_cons_succ, i64_w, i32_w]
                     rfl
                   refine one_ (i := 8) (N := some 10) #[true, true, true, true, true, true, true, true, true, false, false] rfl rfl (one_of HT_.out (by kernel_rfl)) (by decide) (fun K hK => ?_)
                   refine box_step ?hg (N := 10) ?hd (cs := #[.int .i64 0, .int .i64 0, .int .i64 0]) (t := 26) ?hr ?_; (case hd => rfl); (case hg => rfl); (case hr => first | (go_simp; done) | (go_simp; rfl))
                   intro gb416 hg w88 hbox hb
                   have n0_ := Aside0.mk (Kd.R_below (by (with_reducible repeat (first | apply Kd.R_alloc | apply Kd.R_drewN | apply Kd.R_drew)); exact HO_4.out) hb)
                   have n1_ := Aside0.mk (blk_below (g := gb397) (o := .cells #[.int .i64 t391, .int .i64 t392, .int .i64 t393] 26 (0, 0)) (by (with_reducible repeat (first | apply bkN | apply bkD | apply bkA)); exact BK397.out) hb)
                   have n2_ := Aside0.mk (blk_below (g := gb402) (o := .cells #[.int .i64 t398, .int .i64 t399, .int .i64 t400] 26 (0, 0)) (by (with_reducible repeat (first | apply bkN | apply bkD | apply bkA)); exact BK402.out) hb)
                   have n3_ := Aside0.mk (blk_below (g := gb407) (o := .cells #[.int .i64 t403, .int .i64 t404, .int .i64 t405] 26 (0, 0)) (by (with_reducible repeat (first | apply bkN | apply bkD | apply bkA)); exact BK407.out) hb)
                   have n4_ := Aside0.mk (Kd.C_below (by repeat (first | (with_reducible exact HR411.out) | (with_reducible refine Kd.C_alloc ?_ _) | (with_reducible refine Kd.C_drewN ?_ _) | (with_reducible refine Kd.C_drew ?_) | exact HR411.out)) hb)
                   have n5_ := Aside0.mk (below_step (by repeat (first | (with_reducible first | exact HB.out | apply bwA | apply bwN | apply bwD | refine bwS ?_ GE397.out | refine bwS ?_ GE402.out | refine bwS ?_ GE407.out) | exact HB.out)) hb)
                   have n6_ := Aside0.mk (hbox)
                   have n7_ := Aside0.mk ((by rw [hg]; exact (below_size (by repeat (first | (with_reducible first | exact HB.out | apply bwA | apply bwN | apply bwD | refine bwS ?_ GE397.out | refine bwS ?_ GE402.out | refine bwS ?_ GE407.out) | exact HB.out))) : w.heap.size ≤ gb416))
                   have n8_ := Aside0.mk ((by rw [hg]; exact (below_size (by repeat (first | (with_reducible first | exact HB.out | apply bwA | apply bwN | apply bwD | refine bwS ?_ GE397.out | refine bwS ?_ GE402.out | refine bwS ?_ GE407.out) | exact HB.out))) : w.heap.size ≤ gb416))
                   have n9_ := Aside0.mk ((by rw [hg]; exact Nat.ne_of_lt (blk_lt (g := gb397) (o := .cells #[.int .i64 t391, .int .i64 t392, .int .i64 t393] 26 (0, 0)) (by (with_reducible repeat (first | apply bkN | apply bkD | apply bkA)); exact BK397.out)) : gb397 ≠ gb416))
                   have n10_ := Aside0.mk ((by rw [hg]; exact Nat.ne_of_gt (blk_lt (g := gb397) (o := .cells #[.int .i64 t391, .int .i64 t392, .int .i64 t393] 26 (0, 0)) (by (with_reducible repeat (first | apply bkN | apply bkD | apply bkA)); exact BK397.out)) : gb416 ≠ gb397))
                   have n11_ := Aside0.mk ((by rw [hg]; exact Nat.ne_of_lt (blk_lt (g := gb402) (o := .cells #[.int .i64 t398, .int .i64 t399, .int .i64 t400] 26 (0, 0)) (by (with_reducible repeat (first | apply bkN | apply bkD | apply bkA)); exact BK402.out)) : gb402 ≠ gb416))
                   have n12_ := Aside0.mk ((by rw [hg]; exact Nat.ne_of_gt (blk_lt (g := gb402) (o := .cells #[.int .i64 t398, .int .i64 t399, .int .i64 t400] 26 (0, 0)) (by (with_reducible repeat (first | apply bkN | apply bkD | apply bkA)); exact BK402.out)) : gb416 ≠ gb402))
                   have n13_ := Aside0.mk ((by rw [hg]; exact Nat.ne_of_lt (blk_lt (g := gb407) (o := .cells #[.int .i64 t403, .int .i64 t404, .int .i64 t405] 26 (0, 0)) (by (with_reducible repeat (first | apply bkN | apply bkD | apply bkA)); exact BK407.out)) : gb407 ≠ gb416))
                   have n14_ := Aside0.mk ((by rw [hg]; exact Nat.ne_of_gt (blk_lt (g := gb407) (o := .cells #[.int .i64 t403, .int .i64 t404, .int .i64 t405] 26 (0, 0)) (by (with_reducible repeat (first | apply bkN | apply bkD | apply bkA)); exact BK407.out)) : gb416 ≠ gb407))
                   clear HO_4
                   clear BK397
                   clear BK402
                   clear BK407
                   clear HR411
                   clear HB
                   have HO_4 := n0_
                   have BK397 := n1_
                   have BK402 := n2_
                   have BK407 := n3_
                   have HR411 := n4_
                   have HB := n5_
                   have BK416 := n6_
                   have GW416 := n7_
                   have GE416 := n8_
                   have NB397_416 := n9_
                   have NB416_397 := n10_
                   have NB402_416 := n11_
                   have NB416_402 := n12_
                   have NB407_416 := n13_
                   have NB416_407 := n14_
                   clear n0_ n1_ n2_ n3_ n4_ n5_ n6_ n7_ n8_ n9_ n10_ n11_ n12_ n13_ n14_
                   clear hb hbox hg
                   refine hK.out _ _ ⟨(blk_cell BK397.out 0).trans rfl, (blk_cell BK397.out 1).trans rfl, (blk_cell BK397.out 2).trans rfl⟩ (fun hHeld => ?_)
                   clear hK K
                   refine norm_ (a' := ?_) ?_ ?_
                   rotate_left
                   · show Act.put _ (some 10) _ = _
                     simp only [Act.put, List.setIfInBounds_toArray, List.set_cons_zero, List.set_cons_succ, i64_w, i32_w]
                     rfl
                   exact norm_ (by simp only [putAll, Act.put, List.setIfInBounds_toArray, List.set_cons_zero, List.set_cons_succ]) (hCont (gb416) _ ⟨hHeld, (by (with_reducible repeat (first | apply Kd.R_alloc | apply Kd.R_drewN | apply Kd.R_drew)); exact HO_4.out), (by (with_reducible repeat (first | apply bkN | apply bkD | apply bkA)); exact BK397.out), (by (with_reducible repeat (first | apply bkN | apply bkD | apply bkA)); exact BK402.out), (by (with_reducible repeat (first | apply bkN | apply bkD | apply bkA)); exact BK407.out), (by (with_reducible repeat (first | apply bkN | apply bkD | apply bkA)); exact BK416.out), GW416.out, GE416.out, NB397_416.out, NB416_397.out, NB402_416.out, NB416_402.out, NB407_416.out, NB416_407.out, (by repeat (first | (with_reducible first | exact HB.out | apply bwA | apply bwN | apply bwD | refine bwS ?_ GE397.out | refine bwS ?_ GE402.out | refine bwS ?_ GE407.out | refine bwS ?_ GE416.out) | exact HB.out))⟩)
                 · skip
                   refine box_step ?hg (N := 10) ?hd (cs := #[.int .i64 0, .int .i64 0, .int .i64 0]) (t := 26) ?hr ?_; (case hd => rfl); (case hg => rfl); (case hr => first | (go_simp; done) | (go_simp; rfl))
                   intro gb416 hg w87 hbox hb
                   have n0_ := Aside0.mk (Kd.R_below (by (with_reducible repeat (first | apply Kd.R_alloc | apply Kd.R_drewN | apply Kd.R_drew)); exact HO_4.out) hb)
                   have n1_ := Aside0.mk (blk_below (g := gb397) (o := .cells #[.int .i64 t391, .int .i64 t392, .int .i64 t393] 26 (0, 0)) (by (with_reducible repeat (first | apply bkN | apply bkD | apply bkA)); exact BK397.out) hb)
                   have n2_ := Aside0.mk (blk_below (g := gb402) (o := .cells #[.int .i64 t398, .int .i64 t399, .int .i64 t400] 26 (0, 0)) (by (with_reducible repeat (first | apply bkN | apply bkD | apply bkA)); exact BK402.out) hb)
                   have n3_ := Aside0.mk (blk_below (g := gb407) (o := .cells #[.int .i64 t403, .int .i64 t404, .int .i64 t405] 26 (0, 0)) (by (with_reducible repeat (first | apply bkN | apply bkD | apply bkA)); exact BK407.out) hb)
                   have n4_ := Aside0.mk (Kd.C_below (by repeat (first | (with_reducible exact HR411.out) | (with_reducible refine Kd.C_alloc ?_ _) | (with_reducible refine Kd.C_drewN ?_ _) | (with_reducible refine Kd.C_drew ?_) | exact HR411.out)) hb)
                   have n5_ := Aside0.mk (below_step (by repeat (first | (with_reducible first | exact HB.out | apply bwA | apply bwN | apply bwD | refine bwS ?_ GE397.out | refine bwS ?_ GE402.out | refine bwS ?_ GE407.out) | exact HB.out)) hb)
                   have n6_ := Aside0.mk (hbox)
                   have n7_ := Aside0.mk ((by rw [hg]; exact (below_size (by repeat (first | (with_reducible first | exact HB.out | apply bwA | apply bwN | apply bwD | refine bwS ?_ GE397.out | refine bwS ?_ GE402.out | refine bwS ?_ GE407.out) | exact HB.out))) : w.heap.size ≤ gb416))
                   have n8_ := Aside0.mk ((by rw [hg]; exact (below_size (by repeat (first | (with_reducible first | exact HB.out | apply bwA | apply bwN | apply bwD | refine bwS ?_ GE397.out | refine bwS ?_ GE402.out | refine bwS ?_ GE407.out) | exact HB.out))) : w.heap.size ≤ gb416))
                   have n9_ := Aside0.mk ((by rw [hg]; exact Nat.ne_of_lt (blk_lt (g := gb397) (o := .cells #[.int .i64 t391, .int .i64 t392, .int .i64 t393] 26 (0, 0)) (by (with_reducible repeat (first | apply bkN | apply bkD | apply bkA)); exact BK397.out)) : gb397 ≠ gb416))
                   have n10_ := Aside0.mk ((by rw [hg]; exact Nat.ne_of_gt (blk_lt (g := gb397) (o := .cells #[.int .i64 t391, .int .i64 t392, .int .i64 t393] 26 (0, 0)) (by (with_reducible repeat (first | apply bkN | apply bkD | apply bkA)); exact BK397.out)) : gb416 ≠ gb397))
                   have n11_ := Aside0.mk ((by rw [hg]; exact Nat.ne_of_lt (blk_lt (g := gb402) (o := .cells #[.int .i64 t398, .int .i64 t399, .int .i64 t400] 26 (0, 0)) (by (with_reducible repeat (first | apply bkN | apply bkD | apply bkA)); exact BK402.out)) : gb402 ≠ gb416))
                   have n12_ := Aside0.mk ((by rw [hg]; exact Nat.ne_of_gt (blk_lt (g := gb402) (o := .cells #[.int .i64 t398, .int .i64 t399, .int .i64 t400] 26 (0, 0)) (by (with_reducible repeat (first | apply bkN | apply bkD | apply bkA)); exact BK402.out)) : gb416 ≠ gb402))
                   have n13_ := Aside0.mk ((by rw [hg]; exact Nat.ne_of_lt (blk_lt (g := gb407) (o := .cells #[.int .i64 t403, .int .i64 t404, .int .i64 t405] 26 (0, 0)) (by (with_reducible repeat (first | apply bkN | apply bkD | apply bkA)); exact BK407.out)) : gb407 ≠ gb416))
                   have n14_ := Aside0.mk ((by rw [hg]; exact Nat.ne_of_gt (blk_lt (g := gb407) (o := .cells #[.int .i64 t403, .int .i64 t404, .int .i64 t405] 26 (0, 0)) (by (with_reducible repeat (first | apply bkN | apply bkD | apply bkA)); exact BK407.out)) : gb416 ≠ gb407))
                   clear HO_4
                   clear BK397
                   clear BK402
                   clear BK407
                   clear HR411
                   clear HB
                   have HO_4 := n0_
                   have BK397 := n1_
                   have BK402 := n2_
                   have BK407 := n3_
                   have HR411 := n4_
                   have HB := n5_
                   have BK416 := n6_
                   have GW416 := n7_
                   have GE416 := n8_
                   have NB397_416 := n9_
                   have NB416_397 := n10_
                   have NB402_416 := n11_
                   have NB416_402 := n12_
                   have NB407_416 := n13_
                   have NB416_407 := n14_
                   clear n0_ n1_ n2_ n3_ n4_ n5_ n6_ n7_ n8_ n9_ n10_ n11_ n12_ n13_ n14_
                   clear hb hbox hg
                   refine hK.out _ _ ⟨(blk_cell BK397.out 0).trans rfl, (blk_cell BK397.out 1).trans rfl, (blk_cell BK397.out 2).trans rfl⟩ (fun hHeld => ?_)
                   clear hK K
                   refine norm_ (a' := ?_) ?_ ?_
                   rotate_left
                   · show Act.put _ (some 10) _ = _
                     simp only [Act.put, List.setIfInBounds_toArray, List.set_cons_zero, List.set_cons_succ, i64_w, i32_w]
                     rfl
                   refine one_ (i := 4) (N := some 62) #[true, true, true, true, true, false, false, false, true, false, false] rfl rfl (one_of HT_.out (by kernel_rfl)) (by decide) (fun K hK => ?_)
                   refine goes_ Try.func11 (by kernel_rfl) rfl #[.agg #[.int .i64 t391, .int .i64 t392, .int .i64 t393], .slice Ao10 y408.length co10] (by rfl) rfl rfl (by (try simp only [List.map_toArray, List.map_cons, List.map_nil]); first | done | rfl | (simp only [List.length_drop, List.length_take]; rfl)) ?_
                   with_reducible refine (impl_RunClock.calls kj5 t391 t392 t393 _ _ y408 t412 t413 t414 true _ ?side1 ?side2 A53.out).mono ?_
                   (case side1 => repeat (first | exact (by repeat (first | (with_reducible exact HR411.out) | (with_reducible refine Kd.C_alloc ?_ _) | (with_reducible refine Kd.C_drewN ?_ _) | (with_reducible refine Kd.C_drew ?_) | exact HR411.out)) | (with_reducible refine Kd.C_alloc ?_ _) | (with_reducible refine Kd.C_drewN ?_ _) | (with_reducible refine Kd.C_drew ?_)))
                   (case side2 => exact HC411.out)
                   rintro e w88 ⟨rfl, hb⟩
                   refine ⟨_, rfl, ?_⟩
                   have n0_ := Aside0.mk (Kd.R_below (by (with_reducible repeat (first | apply Kd.R_alloc | apply Kd.R_drewN | apply Kd.R_drew)); exact HO_4.out) hb)
                   have n1_ := Aside0.mk (blk_below (g := gb397) (o := .cells #[.int .i64 t391, .int .i64 t392, .int .i64 t393] 26 (0, 0)) (by (with_reducible repeat (first | apply bkN | apply bkD | apply bkA)); exact BK397.out) hb)
                   have n2_ := Aside0.mk (blk_below (g := gb402) (o := .cells #[.int .i64 t398, .int .i64 t399, .int .i64 t400] 26 (0, 0)) (by (with_reducible repeat (first | apply bkN | apply bkD | apply bkA)); exact BK402.out) hb)
                   have n3_ := Aside0.mk (blk_below (g := gb407) (o := .cells #[.int .i64 t403, .int .i64 t404, .int .i64 t405] 26 (0, 0)) (by (with_reducible repeat (first | apply bkN | apply bkD | apply bkA)); exact BK407.out) hb)
                   have n4_ := Aside0.mk (Kd.C_below (by repeat (first | (with_reducible exact HR411.out) | (with_reducible refine Kd.C_alloc ?_ _) | (with_reducible refine Kd.C_drewN ?_ _) | (with_reducible refine Kd.C_drew ?_) | exact HR411.out)) hb)
                   have n5_ := Aside0.mk (blk_below (g := gb416) (o := .cells #[.int .i64 0, .int .i64 0, .int .i64 0] 26 (0, 0)) (by (with_reducible repeat (first | apply bkN | apply bkD | apply bkA)); exact BK416.out) hb)
                   have n6_ := Aside0.mk (below_step (by repeat (first | (with_reducible first | exact HB.out | apply bwA | apply bwN | apply bwD | refine bwS ?_ GE397.out | refine bwS ?_ GE402.out | refine bwS ?_ GE407.out | refine bwS ?_ GE416.out) | exact HB.out)) hb)
                   clear HO_4
                   clear BK397
                   clear BK402
                   clear BK407
                   clear HR411
                   clear BK416
                   clear HB
                   have HO_4 := n0_
                   have BK397 := n1_
                   have BK402 := n2_
                   have BK407 := n3_
                   have HR411 := n4_
                   have BK416 := n5_
                   have HB := n6_
                   clear n0_ n1_ n2_ n3_ n4_ n5_ n6_
                   (try clear hb)
                   (try clear hb2)
                   (try clear hk)
                   (try clear hi)
                   refine hK.out _ _ ⟨(blk_cell BK397.out 0).trans rfl, (blk_cell BK397.out 1).trans rfl, (blk_cell BK397.out 2).trans rfl⟩ (fun hHeld => ?_)
                   clear hK K
                   refine norm_ (a' := ?_) ?_ ?_
                   rotate_left
                   · show Act.put _ (some 62) _ = _
                     simp only [Act.put, List.setIfInBounds_toArray, List.set_cons_zero, List.set_cons_succ, i64_w, i32_w]
                     rfl
                   refine pure_ (i := 5) (N := some 57) (v := ?_) (a' := ?_) #[true, true, true, true, true, true, false, false, true, false, false] rfl rfl (any_of HT_.out (by kernel_rfl)) (fun _ _ _ h => h) (Or.inl ⟨by rfl, ?_⟩) ?_ ?_
                   rotate_left
                   · intro w'
                     go_simp
                     with_reducible rfl
                   rotate_left
                   · simp only [Act.put, List.setIfInBounds_toArray, List.set_cons_zero, List.set_cons_succ, i64_w, i32_w]
                     rfl
                   refine pure_ (i := 6) (N := some 63) (v := ?_) (a' := ?_) #[true, true, true, true, true, true, true, false, true, false, false] rfl rfl (any_of HT_.out (by kernel_rfl)) (fun _ _ _ h => h) (Or.inl ⟨by rfl, ?_⟩) ?_ ?_
                   rotate_left
                   · intro w'
                     go_simp
                     with_reducible rfl
                   rotate_left
                   · simp only [Act.put, List.setIfInBounds_toArray, List.set_cons_zero, List.set_cons_succ, i64_w, i32_w]
                     rfl
                   refine pure_ (i := 7) (N := some 64) (v := ?_) (a' := ?_) #[true, true, true, true, true, true, true, true, true, false, false] rfl rfl (any_of HT_.out (by kernel_rfl)) (fun _ _ _ h => h) (Or.inl ⟨by rfl, ?_⟩) ?_ ?_
                   rotate_left
                   · intro w'
                     go_simp
                     with_reducible rfl
                   rotate_left
                   · simp only [Act.put, List.setIfInBounds_toArray, List.set_cons_zero, List.set_cons_succ, i64_w, i32_w]
                     rfl
                   exact norm_ (by simp only [putAll, Act.put, List.setIfInBounds_toArray, List.set_cons_zero, List.set_cons_succ]) (hCont (gb416) _ ⟨hHeld, (by (with_reducible repeat (first | apply Kd.R_alloc | apply Kd.R_drewN | apply Kd.R_drew)); exact HO_4.out), (by (with_reducible repeat (first | apply bkN | apply bkD | apply bkA)); exact BK397.out), (by (with_reducible repeat (first | apply bkN | apply bkD | apply bkA)); exact BK402.out), (by (with_reducible repeat (first | apply bkN | apply bkD | apply bkA)); exact BK407.out), (by (with_reducible repeat (first | apply bkN | apply bkD | apply bkA)); exact BK416.out), GW416.out, GE416.out, NB397_416.out, NB416_397.out, NB402_416.out, NB416_402.out, NB407_416.out, NB416_407.out, (by repeat (first | (with_reducible first | exact HB.out | apply bwA | apply bwN | apply bwD | refine bwS ?_ GE397.out | refine bwS ?_ GE402.out | refine bwS ?_ GE407.out | refine bwS ?_ GE416.out) | exact HB.out))⟩)
               rintro gb416 w89 ⟨hS_, h0_, h1_, h2_, h3_, h4_, h5_, h6_, h7_, h8_, h9_, h10_, h11_, h12_, h13_⟩
               have n0_ : Aside0 (Kd.R k40 40 w89 w.heap.size (fun _ => True) (.slice Ao10 t394.length co10) t394) := ⟨h0_⟩
               have n1_ : Aside0 (w89.heap[gb397]? = some (.cells #[.int .i64 t391, .int .i64 t392, .int .i64 t393] 26 (0, 0))) := ⟨h1_⟩
               have n2_ : Aside0 (w89.heap[gb402]? = some (.cells #[.int .i64 t398, .int .i64 t399, .int .i64 t400] 26 (0, 0))) := ⟨h2_⟩
               have n3_ : Aside0 (w89.heap[gb407]? = some (.cells #[.int .i64 t403, .int .i64 t404, .int .i64 t405] 26 (0, 0))) := ⟨h3_⟩
               have n4_ : Aside0 (w89.heap[gb416]? = some (.cells #[.int .i64 0, .int .i64 0, .int .i64 0] 26 (0, 0))) := ⟨h4_⟩
               have n5_ : Aside0 (w.heap.size ≤ gb416) := ⟨h5_⟩
               have n6_ : Aside0 (w.heap.size ≤ gb416) := ⟨h6_⟩
               have n7_ : Aside0 (gb397 ≠ gb416) := ⟨h7_⟩
               have n8_ : Aside0 (gb416 ≠ gb397) := ⟨h8_⟩
               have n9_ : Aside0 (gb402 ≠ gb416) := ⟨h9_⟩
               have n10_ : Aside0 (gb416 ≠ gb402) := ⟨h10_⟩
               have n11_ : Aside0 (gb407 ≠ gb416) := ⟨h11_⟩
               have n12_ : Aside0 (gb416 ≠ gb407) := ⟨h12_⟩
               have n13_ : Aside0 (Below w.heap.size w w89) := ⟨h13_⟩
               clear HO_4
               clear BK397
               clear BK402
               clear BK407
               clear HB
               clear h0_ h1_ h2_ h3_ h4_ h5_ h6_ h7_ h8_ h9_ h10_ h11_ h12_ h13_
               have HO_4 := n0_
               have BK397 := n1_
               have BK402 := n2_
               have BK407 := n3_
               have BK416 := n4_
               have GW416 := n5_
               have GE416 := n6_
               have NB397_416 := n7_
               have NB416_397 := n8_
               have NB402_416 := n9_
               have NB416_402 := n10_
               have NB407_416 := n11_
               have NB416_407 := n12_
               have HB := n13_
               clear n0_ n1_ n2_ n3_ n4_ n5_ n6_ n7_ n8_ n9_ n10_ n11_ n12_ n13_
               have hHeld : w89.cell? ⟨gb397, 0, none⟩ = some (.int .i64 t391) ∧ w89.cell? ⟨gb397, 1, none⟩ = some (.int .i64 t392) ∧ w89.cell? ⟨gb397, 2, none⟩ = some (.int .i64 t393) := hS_
               refine norm_ (a' := ?_) ?_ ?_
               rotate_left
               · simp only [putAll, Act.put, List.setIfInBounds_toArray, List.set_cons_zero, List.set_cons_succ]
                 rfl
               refine one_ (i := 9) (N := none) #[true, true, true, true, true, true, true, true, true, true, false] rfl rfl (one_of HT_.out (by kernel_rfl)) (by decide) (fun K hK => ?_)
               have hs90 : w89.cell? ⟨gb416, 0, none⟩ = some (.int .i64 0) := (blk_cell BK416.out 0).trans rfl
               have hfs90 := blk_frozen BK416.out 0
               have hns90_0 := NB397_416.out
               have hns90_1 := NB402_416.out
               have hns90_2 := NB407_416.out
               have hms90_0 := NB416_397.out
               have hms90_1 := NB416_402.out
               have hms90_2 := NB416_407.out
               have hs91 : w89.cell? ⟨gb416, 1, none⟩ = some (.int .i64 0) := (blk_cell BK416.out 1).trans rfl
               have hfs91 := blk_frozen BK416.out 1
               have hns91_0 := NB397_416.out
               have hns91_1 := NB402_416.out
               have hns91_2 := NB407_416.out
               have hms91_0 := NB416_397.out
               have hms91_1 := NB416_402.out
               have hms91_2 := NB416_407.out
               have hs92 : w89.cell? ⟨gb416, 2, none⟩ = some (.int .i64 0) := (blk_cell BK416.out 2).trans rfl
               have hfs92 := blk_frozen BK416.out 2
               have hns92_0 := NB397_416.out
               have hns92_1 := NB402_416.out
               have hns92_2 := NB407_416.out
               have hms92_0 := NB416_397.out
               have hms92_1 := NB416_402.out
               have hms92_2 := NB416_407.out
               refine skip_ (w1 := ?_) (by rfl) rfl ?_ ?_
               rotate_left
               · go_simp
                 rfl
               refine hK.out _ _ ⟨((cell_far (p := ⟨gb416, _, none⟩) NB397_416.out _).trans (((cell_far (p := ⟨gb416, _, none⟩) NB397_416.out _).trans (((cell_far (p := ⟨gb416, _, none⟩) NB397_416.out _).trans (hHeld.1)))))), ((cell_far (p := ⟨gb416, _, none⟩) NB397_416.out _).trans (((cell_far (p := ⟨gb416, _, none⟩) NB397_416.out _).trans (((cell_far (p := ⟨gb416, _, none⟩) NB397_416.out _).trans (hHeld.2.1)))))), ((cell_far (p := ⟨gb416, _, none⟩) NB397_416.out _).trans (((cell_far (p := ⟨gb416, _, none⟩) NB397_416.out _).trans (((cell_far (p := ⟨gb416, _, none⟩) NB397_416.out _).trans (hHeld.2.2))))))⟩ (fun hHeld => ?_)
               clear hK K
               refine pure_ (i := 10) (N := some 11) (v := ?_) (a' := ?_) #[true, true, true, true, true, true, true, true, true, true, true] rfl rfl (any_of HT_.out (by kernel_rfl)) (fun _ _ _ h => h) (Or.inl ⟨by rfl, ?_⟩) ?_ ?_
               rotate_left
               · intro w'
                 go_simp
                 with_reducible rfl
               rotate_left
               · simp only [Act.put, List.setIfInBounds_toArray, List.set_cons_zero, List.set_cons_succ, i64_w, i32_w]
                 rfl
               refine done_ (done_of HT_.out (by kernel_rfl)) ?_
               try go_wp2
               have n0_ : Aside0 (Kd.R k40 40 (((w89.setCell ⟨gb416, 0, none⟩ (.int .i64 t412)).setCell ⟨gb416, 1, none⟩ (.int .i64 t413)).setCell ⟨gb416, 2, none⟩ (.int .i64 t414)) w.heap.size (fun _ => True) (.slice Ao10 t394.length co10) t394) := ⟨by (with_reducible repeat (first | apply Kd.R_alloc | apply Kd.R_drewN | apply Kd.R_drew)); exact Kd.R_mono (Kd.R_far (p := ⟨gb416, 2, none⟩) (Kd.R_far (p := ⟨gb416, 1, none⟩) (Kd.R_far (p := ⟨gb416, 0, none⟩) (Kd.R_types HO_4.out BK416.out (by decide)) (fun _ hk => hk.2) (.int .i64 t412)) (fun _ hk => hk.2) (.int .i64 t413)) (fun _ hk => hk.2) (.int .i64 t414)) (fun _ hk => trivial)⟩
               have n1_ : Aside0 ((((w89.setCell ⟨gb416, 0, none⟩ (.int .i64 t412)).setCell ⟨gb416, 1, none⟩ (.int .i64 t413)).setCell ⟨gb416, 2, none⟩ (.int .i64 t414)).heap[gb397]? = some (.cells #[.int .i64 t391, .int .i64 t392, .int .i64 t393] 26 (0, 0))) := ⟨by (with_reducible repeat (first | apply bkN | apply bkD | apply bkA)); refine blk_far ?_ NB397_416.out _; (with_reducible repeat (first | apply bkN | apply bkD | apply bkA)); refine blk_far ?_ NB397_416.out _; (with_reducible repeat (first | apply bkN | apply bkD | apply bkA)); refine blk_far ?_ NB397_416.out _; (with_reducible repeat (first | apply bkN | apply bkD | apply bkA)); exact BK397.out⟩
               have n2_ : Aside0 ((((w89.setCell ⟨gb416, 0, none⟩ (.int .i64 t412)).setCell ⟨gb416, 1, none⟩ (.int .i64 t413)).setCell ⟨gb416, 2, none⟩ (.int .i64 t414)).heap[gb402]? = some (.cells #[.int .i64 t398, .int .i64 t399, .int .i64 t400] 26 (0, 0))) := ⟨by (with_reducible repeat (first | apply bkN | apply bkD | apply bkA)); refine blk_far ?_ NB402_416.out _; (with_reducible repeat (first | apply bkN | apply bkD | apply bkA)); refine blk_far ?_ NB402_416.out _; (with_reducible repeat (first | apply bkN | apply bkD | apply bkA)); refine blk_far ?_ NB402_416.out _; (with_reducible repeat (first | apply bkN | apply bkD | apply bkA)); exact BK402.out⟩
               have n3_ : Aside0 ((((w89.setCell ⟨gb416, 0, none⟩ (.int .i64 t412)).setCell ⟨gb416, 1, none⟩ (.int .i64 t413)).setCell ⟨gb416, 2, none⟩ (.int .i64 t414)).heap[gb407]? = some (.cells #[.int .i64 t403, .int .i64 t404, .int .i64 t405] 26 (0, 0))) := ⟨by (with_reducible repeat (first | apply bkN | apply bkD | apply bkA)); refine blk_far ?_ NB407_416.out _; (with_reducible repeat (first | apply bkN | apply bkD | apply bkA)); refine blk_far ?_ NB407_416.out _; (with_reducible repeat (first | apply bkN | apply bkD | apply bkA)); refine blk_far ?_ NB407_416.out _; (with_reducible repeat (first | apply bkN | apply bkD | apply bkA)); exact BK407.out⟩
               have n4_ : Aside0 ((((w89.setCell ⟨gb416, 0, none⟩ (.int .i64 t412)).setCell ⟨gb416, 1, none⟩ (.int .i64 t413)).setCell ⟨gb416, 2, none⟩ (.int .i64 t414)).heap[gb416]? = some (.cells #[.int .i64 t412, .int .i64 t413, .int .i64 t414] 26 (0, 0))) := ⟨by (with_reducible repeat (first | apply bkN | apply bkD | apply bkA)); refine blk_put (cs := #[.int .i64 t412, .int .i64 t413, .int .i64 0]) ?_ 2 _ rfl; (with_reducible repeat (first | apply bkN | apply bkD | apply bkA)); refine blk_put (cs := #[.int .i64 t412, .int .i64 0, .int .i64 0]) ?_ 1 _ rfl; (with_reducible repeat (first | apply bkN | apply bkD | apply bkA)); refine blk_put (cs := #[.int .i64 0, .int .i64 0, .int .i64 0]) ?_ 0 _ rfl; (with_reducible repeat (first | apply bkN | apply bkD | apply bkA)); exact BK416.out⟩
               have n5_ : Aside0 (Below w.heap.size w (((w89.setCell ⟨gb416, 0, none⟩ (.int .i64 t412)).setCell ⟨gb416, 1, none⟩ (.int .i64 t413)).setCell ⟨gb416, 2, none⟩ (.int .i64 t414))) := ⟨by repeat (first | (with_reducible first | exact HB.out | apply bwA | apply bwN | apply bwD | refine bwS ?_ GE397.out | refine bwS ?_ GE402.out | refine bwS ?_ GE407.out | refine bwS ?_ GE416.out) | exact HB.out)⟩
               (try clear HO_4)
               (try clear BK397)
               (try clear BK402)
               (try clear BK407)
               (try clear BK416)
               (try clear HB)
               generalize (((w89.setCell ⟨gb416, 0, none⟩ (.int .i64 t412)).setCell ⟨gb416, 1, none⟩ (.int .i64 t413)).setCell ⟨gb416, 2, none⟩ (.int .i64 t414)) = w93 at n0_ n1_ n2_ n3_ n4_ n5_ ⊢
               have HO_4 := n0_
               have BK397 := n1_
               have BK402 := n2_
               have BK407 := n3_
               have BK416 := n4_
               have HB := n5_
               clear n0_ n1_ n2_ n3_ n4_ n5_
               have n0_ := Aside0.mk (Kd.R_drew HO_4.out)
               have n1_ := Aside0.mk (bkD BK397.out)
               have n2_ := Aside0.mk (bkD BK402.out)
               have n3_ := Aside0.mk (bkD BK407.out)
               have n4_ := Aside0.mk (bkD BK416.out)
               have n5_ := Aside0.mk (bwD HB.out)
               clear HO_4
               clear BK397
               clear BK402
               clear BK407
               clear BK416
               clear HB
               have HO_4 := n0_
               have BK397 := n1_
               have BK402 := n2_
               have BK407 := n3_
               have BK416 := n4_
               have HB := n5_
               clear n0_ n1_ n2_ n3_ n4_ n5_
               have q95 : ((ji50) : Int) ≤ ((t394.length : Int) : Int) := of_decide_eq_true (by first | (with_reducible assumption) | assumption)
               obtain ⟨i095, hi095, _, hsz95, _⟩ := info_parts info40
               have hroom95 : t394.length ≤ co10 := (Kd.R_reads' HO_4.out).2.1
               have hC95 : Kd.C k40 _ Ao10 t394.length t394 := (Kd.R_reads' HO_4.out).2.2
               have q095 : (0 : Int) ≤ ((ji50) : Int) := of_decide_eq_true (by first | (with_reducible assumption) | assumption)
               have hcut95 := cut_from (P := Try.prog) 30 40 .i64 Try.underlying30 hi095 3 hsz95 Ao10 t394.length co10 (ji50) q095 q95
               have hr95 := Kd.C_drop (m := ((ji50) : Int).toNat) (c := co10) hC95 (by omega) hroom95
               obtain ⟨A95, hA95⟩ : ∃ A1, A1 = (if co10 = ((ji50) : Int).toNat then Ao10 else (Ao10 : Option Addr).map (·.add (((ji50) : Int).toNat * 3))) := ⟨_, rfl⟩
               obtain ⟨c95, hc95⟩ : ∃ c1, c1 = co10 - ((ji50) : Int).toNat := ⟨_, rfl⟩
               have hy95 : y417.length = t394.length - ((ji50) : Int).toNat := (by rw [Ny417.out, List.length_drop] <;> omega)
               rw [show (t394).drop ((ji50) : Int).toNat = y417 from Ny417.out.symm] at hr95
               replace hr95 : Kd.C k40 _ A95 y417.length y417 := (by rw [hA95]; exact hr95)
               rw [← hy95, ← hA95, ← hc95] at hcut95
               have HR420 := Aside0.mk hr95
               have HC420 := Aside0.mk (show y417.length ≤ c95 from by rw [hy95, hc95]; exact Nat.sub_le_sub_right hroom95 _)
               clear hr95 hC95 hroom95 hi095 hsz95 hc95
               have KY95 := Aside0.mk hy95
               have KA95 := Aside0.mk hA95
               clear hy95 hA95
               have KL95 := Aside0.mk (show ((ji50) : Int).toNat ≤ t394.length from by omega)
               replace q95 := eq_true q95
               refine start_ (n := 11) (S := fun w' => w'.cell? ⟨gb416, 0, none⟩ = some (.int .i64 t412) ∧ w'.cell? ⟨gb416, 1, none⟩ = some (.int .i64 t413) ∧ w'.cell? ⟨gb416, 2, none⟩ = some (.int .i64 t414)) (ds := []) #[false, false, false, false, false, false, false, false, false, false, false] (by kernel_rfl) rfl rfl ⟨(blk_cell BK416.out 0).trans rfl, (blk_cell BK416.out 1).trans rfl, (blk_cell BK416.out 2).trans rfl⟩ (fun hHeld => ?_); refine with_tabW laws_FnRunClockParts.tab10 laws_FnRunClockParts.bits10 (fun HT_ HW_ => ?_)
               generalize w93.drew = w94 at HO_4 BK397 BK402 BK407 BK416 HB HR420 hHeld ⊢
               refine pure_ (i := 1) (N := some 67) (v := ?_) (a' := ?_) #[false, true, false, false, false, false, false, false, false, false, false] rfl rfl (any_of HT_.out (by kernel_rfl)) (fun _ _ _ h => h) (Or.inl ⟨by rfl, ?_⟩) ?_ ?_
               rotate_left
               · intro w'
                 go_simp
                 with_reducible rfl
               rotate_left
               · simp only [Act.put, List.setIfInBounds_toArray, List.set_cons_zero, List.set_cons_succ, i64_w, i32_w]
                 rfl
               refine pure_ (i := 2) (N := some 68) (v := ?_) (a' := ?_) #[false, true, true, false, false, false, false, false, false, false, false] rfl rfl (any_of HT_.out (by kernel_rfl)) (fun _ _ _ h => h) (Or.inl ⟨by rfl, ?_⟩) ?_ ?_
               rotate_left
               · intro w'
                 go_simp
                 with_reducible rfl
               rotate_left
               · simp only [Act.put, List.setIfInBounds_toArray, List.set_cons_zero, List.set_cons_succ, i64_w, i32_w]
                 rfl
               refine pure_ (i := 3) (N := some 69) (v := ?_) (a' := ?_) #[false, true, true, true, false, false, false, false, false, false, false] rfl rfl (any_of HT_.out (by kernel_rfl)) (fun _ _ _ h => h) (Or.inl ⟨by rfl, ?_⟩) ?_ ?_
               rotate_left
               · intro w'
                 go_simp
                 with_reducible rfl
               rotate_left
               · simp only [Act.put, List.setIfInBounds_toArray, List.set_cons_zero, List.set_cons_succ, i64_w, i32_w]
                 rfl
               refine take_ (i := 0) (N := some 66) (v := ?_) (a' := ?_) #[true, true, true, true, false, false, false, false, false, false, false] rfl rfl (take_ofW HT_.out HW_.out (by kernel_rfl)) (fun _ _ _ h => h) (Or.inl ⟨by rfl, ?_⟩) hHeld ?_ ?_
               rotate_left
               · rintro w' ⟨s0, s1, s2⟩
                 go_simp
                 with_reducible rfl
               rotate_left
               · simp only [Act.put, List.setIfInBounds_toArray, List.set_cons_zero, List.set_cons_succ, i64_w, i32_w]
                 rfl
               refine join_ (σ := Nat) 2 #[true, true, true, true, true, true, true, true, true, false, false] (fun s_ => [(70, .tuple #[.agg #[.int .i64 t421, .int .i64 t422, .int .i64 t423], .bool false]), (12, .pointer (some ⟨s_, 0, none⟩)), (65, .tuple #[.agg #[.int .i64 t421, .int .i64 t422, .int .i64 t423], .bool false]), (71, .agg #[.int .i64 t421, .int .i64 t422, .int .i64 t423]), (72, .bool false)]) (fun s_ w' => (w'.cell? ⟨gb416, 0, none⟩ = some (.int .i64 t412) ∧ w'.cell? ⟨gb416, 1, none⟩ = some (.int .i64 t413) ∧ w'.cell? ⟨gb416, 2, none⟩ = some (.int .i64 t414)) ∧ (Kd.R k40 40 w' w.heap.size (fun _ => True) (.slice Ao10 t394.length co10) t394) ∧ (w'.heap[gb397]? = some (.cells #[.int .i64 t391, .int .i64 t392, .int .i64 t393] 26 (0, 0))) ∧ (w'.heap[gb402]? = some (.cells #[.int .i64 t398, .int .i64 t399, .int .i64 t400] 26 (0, 0))) ∧ (w'.heap[gb407]? = some (.cells #[.int .i64 t403, .int .i64 t404, .int .i64 t405] 26 (0, 0))) ∧ (w'.heap[gb416]? = some (.cells #[.int .i64 t412, .int .i64 t413, .int .i64 t414] 26 (0, 0))) ∧ (w'.heap[s_]? = some (.cells #[.int .i64 0, .int .i64 0, .int .i64 0] 26 (0, 0))) ∧ (w.heap.size ≤ s_) ∧ (w.heap.size ≤ s_) ∧ (gb397 ≠ s_) ∧ (s_ ≠ gb397) ∧ (gb402 ≠ s_) ∧ (s_ ≠ gb402) ∧ (gb407 ≠ s_) ∧ (s_ ≠ gb407) ∧ (gb416 ≠ s_) ∧ (s_ ≠ gb416) ∧ (Below w.heap.size w w')) ?_ ?_
               rotate_left
               · intro hCont
                 refine two_ (i := 4) (j := 8) (Ni := some 70) (Nj := some 12) #[true, true, true, true, true, false, false, false, false, false, false] #[true, true, true, true, false, false, false, false, true, false, false] rfl rfl rfl rfl (two_of HT_.out (by kernel_rfl)) (by decide) (by decide) (fun K hK => ?_) (fun K hK => ?_)
                 · skip
                   refine goes_ Try.func11 (by kernel_rfl) rfl #[.agg #[.int .i64 t412, .int .i64 t413, .int .i64 t414], .slice A95 y417.length c95] (by rfl) rfl rfl (by (try simp only [List.map_toArray, List.map_cons, List.map_nil]); first | done | rfl | (simp only [List.length_drop, List.length_take]; rfl)) ?_
                   with_reducible refine (impl_RunClock.calls kj5 t412 t413 t414 _ _ y417 t421 t422 t423 false _ ?side1 ?side2 A56.out).mono ?_
                   (case side1 => repeat (first | exact (by repeat (first | (with_reducible exact HR420.out) | (with_reducible refine Kd.C_alloc ?_ _) | (with_reducible refine Kd.C_drewN ?_ _) | (with_reducible refine Kd.C_drew ?_) | exact HR420.out)) | (with_reducible refine Kd.C_alloc ?_ _) | (with_reducible refine Kd.C_drewN ?_ _) | (with_reducible refine Kd.C_drew ?_)))
                   (case side2 => exact HC420.out)
                   rintro e w96 ⟨rfl, hb⟩
                   refine ⟨_, rfl, ?_⟩
                   have n0_ := Aside0.mk (Kd.R_below (by (with_reducible repeat (first | apply Kd.R_alloc | apply Kd.R_drewN | apply Kd.R_drew)); exact HO_4.out) hb)
                   have n1_ := Aside0.mk (blk_below (g := gb397) (o := .cells #[.int .i64 t391, .int .i64 t392, .int .i64 t393] 26 (0, 0)) (by (with_reducible repeat (first | apply bkN | apply bkD | apply bkA)); exact BK397.out) hb)
                   have n2_ := Aside0.mk (blk_below (g := gb402) (o := .cells #[.int .i64 t398, .int .i64 t399, .int .i64 t400] 26 (0, 0)) (by (with_reducible repeat (first | apply bkN | apply bkD | apply bkA)); exact BK402.out) hb)
                   have n3_ := Aside0.mk (blk_below (g := gb407) (o := .cells #[.int .i64 t403, .int .i64 t404, .int .i64 t405] 26 (0, 0)) (by (with_reducible repeat (first | apply bkN | apply bkD | apply bkA)); exact BK407.out) hb)
                   have n4_ := Aside0.mk (blk_below (g := gb416) (o := .cells #[.int .i64 t412, .int .i64 t413, .int .i64 t414] 26 (0, 0)) (by (with_reducible repeat (first | apply bkN | apply bkD | apply bkA)); exact BK416.out) hb)
                   have n5_ := Aside0.mk (Kd.C_below (by repeat (first | (with_reducible exact HR420.out) | (with_reducible refine Kd.C_alloc ?_ _) | (with_reducible refine Kd.C_drewN ?_ _) | (with_reducible refine Kd.C_drew ?_) | exact HR420.out)) hb)
                   have n6_ := Aside0.mk (below_step (by repeat (first | (with_reducible first | exact HB.out | apply bwA | apply bwN | apply bwD | refine bwS ?_ GE397.out | refine bwS ?_ GE402.out | refine bwS ?_ GE407.out | refine bwS ?_ GE416.out) | exact HB.out)) hb)
                   clear HO_4
                   clear BK397
                   clear BK402
                   clear BK407
                   clear BK416
                   clear HR420
                   clear HB
                   have HO_4 := n0_
                   have BK397 := n1_
                   have BK402 := n2_
                   have BK407 := n3_
                   have BK416 := n4_
                   have HR420 := n5_
                   have HB := n6_
                   clear n0_ n1_ n2_ n3_ n4_ n5_ n6_
                   (try clear hb)
                   (try clear hb2)
                   (try clear hk)
                   (try clear hi)
                   refine hK.out _ _ ⟨(blk_cell BK416.out 0).trans rfl, (blk_cell BK416.out 1).trans rfl, (blk_cell BK416.out 2).trans rfl⟩ (fun hHeld => ?_)
                   clear hK K
                   refine norm_ (a' := ?_) ?_ ?_
                   rotate_left
                   · show Act.put _ (some 70) _ = _
                     simp only [Act.put, List.setIfInBounds_toArray, List.set_cons_zero, List.set_cons_succ, i64_w, i32_w]
                     rfl
                   refine pure_ (i := 5) (N := some 65) (v := ?_) (a' := ?_) #[true, true, true, true, true, true, false, false, false, false, false] rfl rfl (any_of HT_.out (by kernel_rfl)) (fun _ _ _ h => h) (Or.inl ⟨by rfl, ?_⟩) ?_ ?_
                   rotate_left
                   · intro w'
                     go_simp
                     with_reducible rfl
                   rotate_left
                   · simp only [Act.put, List.setIfInBounds_toArray, List.set_cons_zero, List.set_cons_succ, i64_w, i32_w]
                     rfl
                   refine pure_ (i := 6) (N := some 71) (v := ?_) (a' := ?_) #[true, true, true, true, true, true, true, false, false, false, false] rfl rfl (any_of HT_.out (by kernel_rfl)) (fun _ _ _ h => h) (Or.inl ⟨by rfl, ?_⟩) ?_ ?_
                   rotate_left
                   · intro w'
                     go_simp
                     with_reducible rfl
                   rotate_left
                   · simp only [Act.put, List.setIfInBounds_toArray, List.set_cons_zero, List.set_cons_succ, i64_w, i32_w]
                     rfl
                   refine pure_ (i := 7) (N := some 72) (v := ?_) (a' := ?_) #[true, true, true, true, true, true, true, true, false, false, false] rfl rfl (any_of HT_.out (by kernel_rfl)) (fun _ _ _ h => h) (Or.inl ⟨by rfl, ?_⟩) ?_ ?_
                   rotate_left
                   · intro w'
                     go_simp
                     with_reducible rfl
                   rotate_left
                   · simp only [Act.put, List.setIfInBounds_toArray, List.set_cons_zero, List.set_cons_succ, i64_w, i32_w]
                     rfl
                   refine one_ (i := 8) (N := some 12) #[true, true, true, true, true, true, true, true, true, false, false] rfl rfl (one_of HT_.out (by kernel_rfl)) (by decide) (fun K hK => ?_)
                   refine box_step ?hg (N := 12) ?hd (cs := #[.int .i64 0, .int .i64 0, .int .i64 0]) (t := 26) ?hr ?_; (case hd => rfl); (case hg => rfl); (case hr => first | (go_simp; done) | (go_simp; rfl))
                   intro gb425 hg w97 hbox hb
                   have n0_ := Aside0.mk (Kd.R_below (by (with_reducible repeat (first | apply Kd.R_alloc | apply Kd.R_drewN | apply Kd.R_drew)); exact HO_4.out) hb)
                   have n1_ := Aside0.mk (blk_below (g := gb397) (o := .cells #[.int .i64 t391, .int .i64 t392, .int .i64 t393] 26 (0, 0)) (by (with_reducible repeat (first | apply bkN | apply bkD | apply bkA)); exact BK397.out) hb)
                   have n2_ := Aside0.mk (blk_below (g := gb402) (o := .cells #[.int .i64 t398, .int .i64 t399, .int .i64 t400] 26 (0, 0)) (by (with_reducible repeat (first | apply bkN | apply bkD | apply bkA)); exact BK402.out) hb)
                   have n3_ := Aside0.mk (blk_below (g := gb407) (o := .cells #[.int .i64 t403, .int .i64 t404, .int .i64 t405] 26 (0, 0)) (by (with_reducible repeat (first | apply bkN | apply bkD | apply bkA)); exact BK407.out) hb)
                   have n4_ := Aside0.mk (blk_below (g := gb416) (o := .cells #[.int .i64 t412, .int .i64 t413, .int .i64 t414] 26 (0, 0)) (by (with_reducible repeat (first | apply bkN | apply bkD | apply bkA)); exact BK416.out) hb)
                   have n5_ := Aside0.mk (Kd.C_below (by repeat (first | (with_reducible exact HR420.out) | (with_reducible refine Kd.C_alloc ?_ _) | (with_reducible refine Kd.C_drewN ?_ _) | (with_reducible refine Kd.C_drew ?_) | exact HR420.out)) hb)
                   have n6_ := Aside0.mk (below_step (by repeat (first | (with_reducible first | exact HB.out | apply bwA | apply bwN | apply bwD | refine bwS ?_ GE397.out | refine bwS ?_ GE402.out | refine bwS ?_ GE407.out | refine bwS ?_ GE416.out) | exact HB.out)) hb)
                   have n7_ := Aside0.mk (hbox)
                   have n8_ := Aside0.mk ((by rw [hg]; exact (below_size (by repeat (first | (with_reducible first | exact HB.out | apply bwA | apply bwN | apply bwD | refine bwS ?_ GE397.out | refine bwS ?_ GE402.out | refine bwS ?_ GE407.out | refine bwS ?_ GE416.out) | exact HB.out))) : w.heap.size ≤ gb425))
                   have n9_ := Aside0.mk ((by rw [hg]; exact (below_size (by repeat (first | (with_reducible first | exact HB.out | apply bwA | apply bwN | apply bwD | refine bwS ?_ GE397.out | refine bwS ?_ GE402.out | refine bwS ?_ GE407.out | refine bwS ?_ GE416.out) | exact HB.out))) : w.heap.size ≤ gb425))
                   have n10_ := Aside0.mk ((by rw [hg]; exact Nat.ne_of_lt (blk_lt (g := gb397) (o := .cells #[.int .i64 t391, .int .i64 t392, .int .i64 t393] 26 (0, 0)) (by (with_reducible repeat (first | apply bkN | apply bkD | apply bkA)); exact BK397.out)) : gb397 ≠ gb425))
                   have n11_ := Aside0.mk ((by rw [hg]; exact Nat.ne_of_gt (blk_lt (g := gb397) (o := .cells #[.int .i64 t391, .int .i64 t392, .int .i64 t393] 26 (0, 0)) (by (with_reducible repeat (first | apply bkN | apply bkD | apply bkA)); exact BK397.out)) : gb425 ≠ gb397))
                   have n12_ := Aside0.mk ((by rw [hg]; exact Nat.ne_of_lt (blk_lt (g := gb402) (o := .cells #[.int .i64 t398, .int .i64 t399, .int .i64 t400] 26 (0, 0)) (by (with_reducible repeat (first | apply bkN | apply bkD | apply bkA)); exact BK402.out)) : gb402 ≠ gb425))
                   have n13_ := Aside0.mk ((by rw [hg]; exact Nat.ne_of_gt (blk_lt (g := gb402) (o := .cells #[.int .i64 t398, .int .i64 t399, .int .i64 t400] 26 (0, 0)) (by (with_reducible repeat (first | apply bkN | apply bkD | apply bkA)); exact BK402.out)) : gb425 ≠ gb402))
                   have n14_ := Aside0.mk ((by rw [hg]; exact Nat.ne_of_lt (blk_lt (g := gb407) (o := .cells #[.int .i64 t403, .int .i64 t404, .int .i64 t405] 26 (0, 0)) (by (with_reducible repeat (first | apply bkN | apply bkD | apply bkA)); exact BK407.out)) : gb407 ≠ gb425))
                   have n15_ := Aside0.mk ((by rw [hg]; exact Nat.ne_of_gt (blk_lt (g := gb407) (o := .cells #[.int .i64 t403, .int .i64 t404, .int .i64 t405] 26 (0, 0)) (by (with_reducible repeat (first | apply bkN | apply bkD | apply bkA)); exact BK407.out)) : gb425 ≠ gb407))
                   have n16_ := Aside0.mk ((by rw [hg]; exact Nat.ne_of_lt (blk_lt (g := gb416) (o := .cells #[.int .i64 t412, .int .i64 t413, .int .i64 t414] 26 (0, 0)) (by (with_reducible repeat (first | apply bkN | apply bkD | apply bkA)); exact BK416.out)) : gb416 ≠ gb425))
                   have n17_ := Aside0.mk ((by rw [hg]; exact Nat.ne_of_gt (blk_lt (g := gb416) (o := .cells #[.int .i64 t412, .int .i64 t413, .int .i64 t414] 26 (0, 0)) (by (with_reducible repeat (first | apply bkN | apply bkD | apply bkA)); exact BK416.out)) : gb425 ≠ gb416))
                   clear HO_4
                   clear BK397
                   clear BK402
                   clear BK407
                   clear BK416
                   clear HR420
                   clear HB
                   have HO_4 := n0_
                   have BK397 := n1_
                   have BK402 := n2_
                   have BK407 := n3_
                   have BK416 := n4_
                   have HR420 := n5_
                   have HB := n6_
                   have BK425 := n7_
                   have GW425 := n8_
                   have GE425 := n9_
                   have NB397_425 := n10_
                   have NB425_397 := n11_
                   have NB402_425 := n12_
                   have NB425_402 := n13_
                   have NB407_425 := n14_
                   have NB425_407 := n15_
                   have NB416_425 := n16_
                   have NB425_416 := n17_
                   clear n0_ n1_ n2_ n3_ n4_ n5_ n6_ n7_ n8_ n9_ n10_ n11_ n12_ n13_ n14_ n15_ n16_ n17_
                   clear hb hbox hg
                   refine hK.out _ _ ⟨(blk_cell BK416.out 0).trans rfl, (blk_cell BK416.out 1).trans rfl, (blk_cell BK416.out 2).trans rfl⟩ (fun hHeld => ?_)
                   clear hK K
                   refine norm_ (a' := ?_) ?_ ?_
                   rotate_left
                   · show Act.put _ (some 12) _ = _
                     simp only [Act.put, List.setIfInBounds_toArray, List.set_cons_zero, List.set_cons_succ, i64_w, i32_w]
                     rfl
                   exact norm_ (by simp only [putAll, Act.put, List.setIfInBounds_toArray, List.set_cons_zero, List.set_cons_succ]) (hCont (gb425) _ ⟨hHeld, (by (with_reducible repeat (first | apply Kd.R_alloc | apply Kd.R_drewN | apply Kd.R_drew)); exact HO_4.out), (by (with_reducible repeat (first | apply bkN | apply bkD | apply bkA)); exact BK397.out), (by (with_reducible repeat (first | apply bkN | apply bkD | apply bkA)); exact BK402.out), (by (with_reducible repeat (first | apply bkN | apply bkD | apply bkA)); exact BK407.out), (by (with_reducible repeat (first | apply bkN | apply bkD | apply bkA)); exact BK416.out), (by (with_reducible repeat (first | apply bkN | apply bkD | apply bkA)); exact BK425.out), GW425.out, GE425.out, NB397_425.out, NB425_397.out, NB402_425.out, NB425_402.out, NB407_425.out, NB425_407.out, NB416_425.out, NB425_416.out, (by repeat (first | (with_reducible first | exact HB.out | apply bwA | apply bwN | apply bwD | refine bwS ?_ GE397.out | refine bwS ?_ GE402.out | refine bwS ?_ GE407.out | refine bwS ?_ GE416.out | refine bwS ?_ GE425.out) | exact HB.out))⟩)
                 · skip
                   refine box_step ?hg (N := 12) ?hd (cs := #[.int .i64 0, .int .i64 0, .int .i64 0]) (t := 26) ?hr ?_; (case hd => rfl); (case hg => rfl); (case hr => first | (go_simp; done) | (go_simp; rfl))
                   intro gb425 hg w96 hbox hb
                   have n0_ := Aside0.mk (Kd.R_below (by (with_reducible repeat (first | apply Kd.R_alloc | apply Kd.R_drewN | apply Kd.R_drew)); exact HO_4.out) hb)
                   have n1_ := Aside0.mk (blk_below (g := gb397) (o := .cells #[.int .i64 t391, .int .i64 t392, .int .i64 t393] 26 (0, 0)) (by (with_reducible repeat (first | apply bkN | apply bkD | apply bkA)); exact BK397.out) hb)
                   have n2_ := Aside0.mk (blk_below (g := gb402) (o := .cells #[.int .i64 t398, .int .i64 t399, .int .i64 t400] 26 (0, 0)) (by (with_reducible repeat (first | apply bkN | apply bkD | apply bkA)); exact BK402.out) hb)
                   have n3_ := Aside0.mk (blk_below (g := gb407) (o := .cells #[.int .i64 t403, .int .i64 t404, .int .i64 t405] 26 (0, 0)) (by (with_reducible repeat (first | apply bkN | apply bkD | apply bkA)); exact BK407.out) hb)
                   have n4_ := Aside0.mk (blk_below (g := gb416) (o := .cells #[.int .i64 t412, .int .i64 t413, .int .i64 t414] 26 (0, 0)) (by (with_reducible repeat (first | apply bkN | apply bkD | apply bkA)); exact BK416.out) hb)
                   have n5_ := Aside0.mk (Kd.C_below (by repeat (first | (with_reducible exact HR420.out) | (with_reducible refine Kd.C_alloc ?_ _) | (with_reducible refine Kd.C_drewN ?_ _) | (with_reducible refine Kd.C_drew ?_) | exact HR420.out)) hb)
                   have n6_ := Aside0.mk (below_step (by repeat (first | (with_reducible first | exact HB.out | apply bwA | apply bwN | apply bwD | refine bwS ?_ GE397.out | refine bwS ?_ GE402.out | refine bwS ?_ GE407.out | refine bwS ?_ GE416.out) | exact HB.out)) hb)
                   have n7_ := Aside0.mk (hbox)
                   have n8_ := Aside0.mk ((by rw [hg]; exact (below_size (by repeat (first | (with_reducible first | exact HB.out | apply bwA | apply bwN | apply bwD | refine bwS ?_ GE397.out | refine bwS ?_ GE402.out | refine bwS ?_ GE407.out | refine bwS ?_ GE416.out) | exact HB.out))) : w.heap.size ≤ gb425))
                   have n9_ := Aside0.mk ((by rw [hg]; exact (below_size (by repeat (first | (with_reducible first | exact HB.out | apply bwA | apply bwN | apply bwD | refine bwS ?_ GE397.out | refine bwS ?_ GE402.out | refine bwS ?_ GE407.out | refine bwS ?_ GE416.out) | exact HB.out))) : w.heap.size ≤ gb425))
                   have n10_ := Aside0.mk ((by rw [hg]; exact Nat.ne_of_lt (blk_lt (g := gb397) (o := .cells #[.int .i64 t391, .int .i64 t392, .int .i64 t393] 26 (0, 0)) (by (with_reducible repeat (first | apply bkN | apply bkD | apply bkA)); exact BK397.out)) : gb397 ≠ gb425))
                   have n11_ := Aside0.mk ((by rw [hg]; exact Nat.ne_of_gt (blk_lt (g := gb397) (o := .cells #[.int .i64 t391, .int .i64 t392, .int .i64 t393] 26 (0, 0)) (by (with_reducible repeat (first | apply bkN | apply bkD | apply bkA)); exact BK397.out)) : gb425 ≠ gb397))
                   have n12_ := Aside0.mk ((by rw [hg]; exact Nat.ne_of_lt (blk_lt (g := gb402) (o := .cells #[.int .i64 t398, .int .i64 t399, .int .i64 t400] 26 (0, 0)) (by (with_reducible repeat (first | apply bkN | apply bkD | apply bkA)); exact BK402.out)) : gb402 ≠ gb425))
                   have n13_ := Aside0.mk ((by rw [hg]; exact Nat.ne_of_gt (blk_lt (g := gb402) (o := .cells #[.int .i64 t398, .int .i64 t399, .int .i64 t400] 26 (0, 0)) (by (with_reducible repeat (first | apply bkN | apply bkD | apply bkA)); exact BK402.out)) : gb425 ≠ gb402))
                   have n14_ := Aside0.mk ((by rw [hg]; exact Nat.ne_of_lt (blk_lt (g := gb407) (o := .cells #[.int .i64 t403, .int .i64 t404, .int .i64 t405] 26 (0, 0)) (by (with_reducible repeat (first | apply bkN | apply bkD | apply bkA)); exact BK407.out)) : gb407 ≠ gb425))
                   have n15_ := Aside0.mk ((by rw [hg]; exact Nat.ne_of_gt (blk_lt (g := gb407) (o := .cells #[.int .i64 t403, .int .i64 t404, .int .i64 t405] 26 (0, 0)) (by (with_reducible repeat (first | apply bkN | apply bkD | apply bkA)); exact BK407.out)) : gb425 ≠ gb407))
                   have n16_ := Aside0.mk ((by rw [hg]; exact Nat.ne_of_lt (blk_lt (g := gb416) (o := .cells #[.int .i64 t412, .int .i64 t413, .int .i64 t414] 26 (0, 0)) (by (with_reducible repeat (first | apply bkN | apply bkD | apply bkA)); exact BK416.out)) : gb416 ≠ gb425))
                   have n17_ := Aside0.mk ((by rw [hg]; exact Nat.ne_of_gt (blk_lt (g := gb416) (o := .cells #[.int .i64 t412, .int .i64 t413, .int .i64 t414] 26 (0, 0)) (by (with_reducible repeat (first | apply bkN | apply bkD | apply bkA)); exact BK416.out)) : gb425 ≠ gb416))
                   clear HO_4
                   clear BK397
                   clear BK402
                   clear BK407
                   clear BK416
                   clear HR420
                   clear HB
                   have HO_4 := n0_
                   have BK397 := n1_
                   have BK402 := n2_
                   have BK407 := n3_
                   have BK416 := n4_
                   have HR420 := n5_
                   have HB := n6_
                   have BK425 := n7_
                   have GW425 := n8_
                   have GE425 := n9_
                   have NB397_425 := n10_
                   have NB425_397 := n11_
                   have NB402_425 := n12_
                   have NB425_402 := n13_
                   have NB407_425 := n14_
                   have NB425_407 := n15_
                   have NB416_425 := n16_
                   have NB425_416 := n17_
                   clear n0_ n1_ n2_ n3_ n4_ n5_ n6_ n7_ n8_ n9_ n10_ n11_ n12_ n13_ n14_ n15_ n16_ n17_
                   clear hb hbox hg
                   refine hK.out _ _ ⟨(blk_cell BK416.out 0).trans rfl, (blk_cell BK416.out 1).trans rfl, (blk_cell BK416.out 2).trans rfl⟩ (fun hHeld => ?_)
                   clear hK K
                   refine norm_ (a' := ?_) ?_ ?_
                   rotate_left
                   · show Act.put _ (some 12) _ = _
                     simp only [Act.put, List.setIfInBounds_toArray, List.set_cons_zero, List.set_cons_succ, i64_w, i32_w]
                     rfl
                   refine one_ (i := 4) (N := some 70) #[true, true, true, true, true, false, false, false, true, false, false] rfl rfl (one_of HT_.out (by kernel_rfl)) (by decide) (fun K hK => ?_)
                   refine goes_ Try.func11 (by kernel_rfl) rfl #[.agg #[.int .i64 t412, .int .i64 t413, .int .i64 t414], .slice A95 y417.length c95] (by rfl) rfl rfl (by (try simp only [List.map_toArray, List.map_cons, List.map_nil]); first | done | rfl | (simp only [List.length_drop, List.length_take]; rfl)) ?_
                   with_reducible refine (impl_RunClock.calls kj5 t412 t413 t414 _ _ y417 t421 t422 t423 false _ ?side1 ?side2 A56.out).mono ?_
                   (case side1 => repeat (first | exact (by repeat (first | (with_reducible exact HR420.out) | (with_reducible refine Kd.C_alloc ?_ _) | (with_reducible refine Kd.C_drewN ?_ _) | (with_reducible refine Kd.C_drew ?_) | exact HR420.out)) | (with_reducible refine Kd.C_alloc ?_ _) | (with_reducible refine Kd.C_drewN ?_ _) | (with_reducible refine Kd.C_drew ?_)))
                   (case side2 => exact HC420.out)
                   rintro e w97 ⟨rfl, hb⟩
                   refine ⟨_, rfl, ?_⟩
                   have n0_ := Aside0.mk (Kd.R_below (by (with_reducible repeat (first | apply Kd.R_alloc | apply Kd.R_drewN | apply Kd.R_drew)); exact HO_4.out) hb)
                   have n1_ := Aside0.mk (blk_below (g := gb397) (o := .cells #[.int .i64 t391, .int .i64 t392, .int .i64 t393] 26 (0, 0)) (by (with_reducible repeat (first | apply bkN | apply bkD | apply bkA)); exact BK397.out) hb)
                   have n2_ := Aside0.mk (blk_below (g := gb402) (o := .cells #[.int .i64 t398, .int .i64 t399, .int .i64 t400] 26 (0, 0)) (by (with_reducible repeat (first | apply bkN | apply bkD | apply bkA)); exact BK402.out) hb)
                   have n3_ := Aside0.mk (blk_below (g := gb407) (o := .cells #[.int .i64 t403, .int .i64 t404, .int .i64 t405] 26 (0, 0)) (by (with_reducible repeat (first | apply bkN | apply bkD | apply bkA)); exact BK407.out) hb)
                   have n4_ := Aside0.mk (blk_below (g := gb416) (o := .cells #[.int .i64 t412, .int .i64 t413, .int .i64 t414] 26 (0, 0)) (by (with_reducible repeat (first | apply bkN | apply bkD | apply bkA)); exact BK416.out) hb)
                   have n5_ := Aside0.mk (Kd.C_below (by repeat (first | (with_reducible exact HR420.out) | (with_reducible refine Kd.C_alloc ?_ _) | (with_reducible refine Kd.C_drewN ?_ _) | (with_reducible refine Kd.C_drew ?_) | exact HR420.out)) hb)
                   have n6_ := Aside0.mk (blk_below (g := gb425) (o := .cells #[.int .i64 0, .int .i64 0, .int .i64 0] 26 (0, 0)) (by (with_reducible repeat (first | apply bkN | apply bkD | apply bkA)); exact BK425.out) hb)
                   have n7_ := Aside0.mk (below_step (by repeat (first | (with_reducible first | exact HB.out | apply bwA | apply bwN | apply bwD | refine bwS ?_ GE397.out | refine bwS ?_ GE402.out | refine bwS ?_ GE407.out | refine bwS ?_ GE416.out | refine bwS ?_ GE425.out) | exact HB.out)) hb)
                   clear HO_4
                   clear BK397
                   clear BK402
                   clear BK407
                   clear BK416
                   clear HR420
                   clear BK425
                   clear HB
                   have HO_4 := n0_
                   have BK397 := n1_
                   have BK402 := n2_
                   have BK407 := n3_
                   have BK416 := n4_
                   have HR420 := n5_
                   have BK425 := n6_
                   have HB := n7_
                   clear n0_ n1_ n2_ n3_ n4_ n5_ n6_ n7_
                   (try clear hb)
                   (try clear hb2)
                   (try clear hk)
                   (try clear hi)
                   refine hK.out _ _ ⟨(blk_cell BK416.out 0).trans rfl, (blk_cell BK416.out 1).trans rfl, (blk_cell BK416.out 2).trans rfl⟩ (fun hHeld => ?_)
                   clear hK K
                   refine norm_ (a' := ?_) ?_ ?_
                   rotate_left
                   · show Act.put _ (some 70) _ = _
                     simp only [Act.put, List.setIfInBounds_toArray, List.set_cons_zero, List.set_cons_succ, i64_w, i32_w]
                     rfl
                   refine pure_ (i := 5) (N := some 65) (v := ?_) (a' := ?_) #[true, true, true, true, true, true, false, false, true, false, false] rfl rfl (any_of HT_.out (by kernel_rfl)) (fun _ _ _ h => h) (Or.inl ⟨by rfl, ?_⟩) ?_ ?_
                   rotate_left
                   · intro w'
                     go_simp
                     with_reducible rfl
                   rotate_left
                   · simp only [Act.put, List.setIfInBounds_toArray, List.set_cons_zero, List.set_cons_succ, i64_w, i32_w]
                     rfl
                   refine pure_ (i := 6) (N := some 71) (v := ?_) (a' := ?_) #[true, true, true, true, true, true, true, false, true, false, false] rfl rfl (any_of HT_.out (by kernel_rfl)) (fun _ _ _ h => h) (Or.inl ⟨by rfl, ?_⟩) ?_ ?_
                   rotate_left
                   · intro w'
                     go_simp
                     with_reducible rfl
                   rotate_left
                   · simp only [Act.put, List.setIfInBounds_toArray, List.set_cons_zero, List.set_cons_succ, i64_w, i32_w]
                     rfl
                   refine pure_ (i := 7) (N := some 72) (v := ?_) (a' := ?_) #[true, true, true, true, true, true, true, true, true, false, false] rfl rfl (any_of HT_.out (by kernel_rfl)) (fun _ _ _ h => h) (Or.inl ⟨by rfl, ?_⟩) ?_ ?_
                   rotate_left
                   · intro w'
                     go_simp
                     with_reducible rfl
                   rotate_left
                   · simp only [Act.put, List.setIfInBounds_toArray, List.set_cons_zero, List.set_cons_succ, i64_w, i32_w]
                     rfl
                   exact norm_ (by simp only [putAll, Act.put, List.setIfInBounds_toArray, List.set_cons_zero, List.set_cons_succ]) (hCont (gb425) _ ⟨hHeld, (by (with_reducible repeat (first | apply Kd.R_alloc | apply Kd.R_drewN | apply Kd.R_drew)); exact HO_4.out), (by (with_reducible repeat (first | apply bkN | apply bkD | apply bkA)); exact BK397.out), (by (with_reducible repeat (first | apply bkN | apply bkD | apply bkA)); exact BK402.out), (by (with_reducible repeat (first | apply bkN | apply bkD | apply bkA)); exact BK407.out), (by (with_reducible repeat (first | apply bkN | apply bkD | apply bkA)); exact BK416.out), (by (with_reducible repeat (first | apply bkN | apply bkD | apply bkA)); exact BK425.out), GW425.out, GE425.out, NB397_425.out, NB425_397.out, NB402_425.out, NB425_402.out, NB407_425.out, NB425_407.out, NB416_425.out, NB425_416.out, (by repeat (first | (with_reducible first | exact HB.out | apply bwA | apply bwN | apply bwD | refine bwS ?_ GE397.out | refine bwS ?_ GE402.out | refine bwS ?_ GE407.out | refine bwS ?_ GE416.out | refine bwS ?_ GE425.out) | exact HB.out))⟩)
               rintro gb425 w98 ⟨hS_, h0_, h1_, h2_, h3_, h4_, h5_, h6_, h7_, h8_, h9_, h10_, h11_, h12_, h13_, h14_, h15_, h16_⟩
               have n0_ : Aside0 (Kd.R k40 40 w98 w.heap.size (fun _ => True) (.slice Ao10 t394.length co10) t394) := ⟨h0_⟩
               have n1_ : Aside0 (w98.heap[gb397]? = some (.cells #[.int .i64 t391, .int .i64 t392, .int .i64 t393] 26 (0, 0))) := ⟨h1_⟩
               have n2_ : Aside0 (w98.heap[gb402]? = some (.cells #[.int .i64 t398, .int .i64 t399, .int .i64 t400] 26 (0, 0))) := ⟨h2_⟩
               have n3_ : Aside0 (w98.heap[gb407]? = some (.cells #[.int .i64 t403, .int .i64 t404, .int .i64 t405] 26 (0, 0))) := ⟨h3_⟩
               have n4_ : Aside0 (w98.heap[gb416]? = some (.cells #[.int .i64 t412, .int .i64 t413, .int .i64 t414] 26 (0, 0))) := ⟨h4_⟩
               have n5_ : Aside0 (w98.heap[gb425]? = some (.cells #[.int .i64 0, .int .i64 0, .int .i64 0] 26 (0, 0))) := ⟨h5_⟩
               have n6_ : Aside0 (w.heap.size ≤ gb425) := ⟨h6_⟩
               have n7_ : Aside0 (w.heap.size ≤ gb425) := ⟨h7_⟩
               have n8_ : Aside0 (gb397 ≠ gb425) := ⟨h8_⟩
               have n9_ : Aside0 (gb425 ≠ gb397) := ⟨h9_⟩
               have n10_ : Aside0 (gb402 ≠ gb425) := ⟨h10_⟩
               have n11_ : Aside0 (gb425 ≠ gb402) := ⟨h11_⟩
               have n12_ : Aside0 (gb407 ≠ gb425) := ⟨h12_⟩
               have n13_ : Aside0 (gb425 ≠ gb407) := ⟨h13_⟩
               have n14_ : Aside0 (gb416 ≠ gb425) := ⟨h14_⟩
               have n15_ : Aside0 (gb425 ≠ gb416) := ⟨h15_⟩
               have n16_ : Aside0 (Below w.heap.size w w98) := ⟨h16_⟩
               clear HO_4
               clear BK397
               clear BK402
               clear BK407
               clear BK416
               clear HB
               clear h0_ h1_ h2_ h3_ h4_ h5_ h6_ h7_ h8_ h9_ h10_ h11_ h12_ h13_ h14_ h15_ h16_
               have HO_4 := n0_
               have BK397 := n1_
               have BK402 := n2_
               have BK407 := n3_
               have BK416 := n4_
               have BK425 := n5_
               have GW425 := n6_
               have GE425 := n7_
               have NB397_425 := n8_
               have NB425_397 := n9_
               have NB402_425 := n10_
               have NB425_402 := n11_
               have NB407_425 := n12_
               have NB425_407 := n13_
               have NB416_425 := n14_
               have NB425_416 := n15_
               have HB := n16_
               clear n0_ n1_ n2_ n3_ n4_ n5_ n6_ n7_ n8_ n9_ n10_ n11_ n12_ n13_ n14_ n15_ n16_
               have hHeld : w98.cell? ⟨gb416, 0, none⟩ = some (.int .i64 t412) ∧ w98.cell? ⟨gb416, 1, none⟩ = some (.int .i64 t413) ∧ w98.cell? ⟨gb416, 2, none⟩ = some (.int .i64 t414) := hS_
               refine norm_ (a' := ?_) ?_ ?_
               rotate_left
               · simp only [putAll, Act.put, List.setIfInBounds_toArray, List.set_cons_zero, List.set_cons_succ]
                 rfl
               refine one_ (i := 9) (N := none) #[true, true, true, true, true, true, true, true, true, true, false] rfl rfl (one_of HT_.out (by kernel_rfl)) (by decide) (fun K hK => ?_)
               have hs99 : w98.cell? ⟨gb425, 0, none⟩ = some (.int .i64 0) := (blk_cell BK425.out 0).trans rfl
               have hfs99 := blk_frozen BK425.out 0
               have hns99_0 := NB397_425.out
               have hns99_1 := NB402_425.out
               have hns99_2 := NB407_425.out
               have hns99_3 := NB416_425.out
               have hms99_0 := NB425_397.out
               have hms99_1 := NB425_402.out
               have hms99_2 := NB425_407.out
               have hms99_3 := NB425_416.out
               have hs100 : w98.cell? ⟨gb425, 1, none⟩ = some (.int .i64 0) := (blk_cell BK425.out 1).trans rfl
               have hfs100 := blk_frozen BK425.out 1
               have hns100_0 := NB397_425.out
               have hns100_1 := NB402_425.out
               have hns100_2 := NB407_425.out
               have hns100_3 := NB416_425.out
               have hms100_0 := NB425_397.out
               have hms100_1 := NB425_402.out
               have hms100_2 := NB425_407.out
               have hms100_3 := NB425_416.out
               have hs101 : w98.cell? ⟨gb425, 2, none⟩ = some (.int .i64 0) := (blk_cell BK425.out 2).trans rfl
               have hfs101 := blk_frozen BK425.out 2
               have hns101_0 := NB397_425.out
               have hns101_1 := NB402_425.out
               have hns101_2 := NB407_425.out
               have hns101_3 := NB416_425.out
               have hms101_0 := NB425_397.out
               have hms101_1 := NB425_402.out
               have hms101_2 := NB425_407.out
               have hms101_3 := NB425_416.out
               refine skip_ (w1 := ?_) (by rfl) rfl ?_ ?_
               rotate_left
               · go_simp
                 rfl
               refine hK.out _ _ ⟨((cell_far (p := ⟨gb425, _, none⟩) NB416_425.out _).trans (((cell_far (p := ⟨gb425, _, none⟩) NB416_425.out _).trans (((cell_far (p := ⟨gb425, _, none⟩) NB416_425.out _).trans (hHeld.1)))))), ((cell_far (p := ⟨gb425, _, none⟩) NB416_425.out _).trans (((cell_far (p := ⟨gb425, _, none⟩) NB416_425.out _).trans (((cell_far (p := ⟨gb425, _, none⟩) NB416_425.out _).trans (hHeld.2.1)))))), ((cell_far (p := ⟨gb425, _, none⟩) NB416_425.out _).trans (((cell_far (p := ⟨gb425, _, none⟩) NB416_425.out _).trans (((cell_far (p := ⟨gb425, _, none⟩) NB416_425.out _).trans (hHeld.2.2))))))⟩ (fun hHeld => ?_)
               clear hK K
               refine pure_ (i := 10) (N := some 13) (v := ?_) (a' := ?_) #[true, true, true, true, true, true, true, true, true, true, true] rfl rfl (any_of HT_.out (by kernel_rfl)) (fun _ _ _ h => h) (Or.inl ⟨by rfl, ?_⟩) ?_ ?_
               rotate_left
               · intro w'
                 go_simp
                 with_reducible rfl
               rotate_left
               · simp only [Act.put, List.setIfInBounds_toArray, List.set_cons_zero, List.set_cons_succ, i64_w, i32_w]
                 rfl
               refine done_ (done_of HT_.out (by kernel_rfl)) ?_
               try go_wp2
               go_ret
               exact ⟨by first | rfl | (simp [errW_none, errW_some] <;> rfl) | (simp only [← hji50]; first | rfl | (simp [errW_none, errW_some] <;> rfl)) | (simp [*, errW_none, errW_some] <;> rfl), by repeat (first | (with_reducible first | exact HB.out | apply bwA | apply bwN | apply bwD | refine bwS ?_ GE397.out | refine bwS ?_ GE402.out | refine bwS ?_ GE407.out | refine bwS ?_ GE416.out | refine bwS ?_ GE425.out) | exact HB.out)⟩
           · replace c57 := Bool.eq_false_iff.mpr c57
             subst c57
             have H1 : (some false) = some r := by rw [if_neg (show ¬ (false = true) by decide)] at H; exact H
             clear H
             have H := H1
             clear H1
             obtain rfl := Option.some.inj H
             try go_wp2
             have n0_ := Aside0.mk (Kd.R_drew HO_4.out)
             have n1_ := Aside0.mk (bkD BK397.out)
             have n2_ := Aside0.mk (bkD BK402.out)
             have n3_ := Aside0.mk (bkD BK407.out)
             have n4_ := Aside0.mk (bwD HB.out)
             clear HO_4
             clear BK397
             clear BK402
             clear BK407
             clear HB
             have HO_4 := n0_
             have BK397 := n1_
             have BK402 := n2_
             have BK407 := n3_
             have HB := n4_
             clear n0_ n1_ n2_ n3_ n4_
             have q103 : ((ji50) : Int) ≤ ((t394.length : Int) : Int) := of_decide_eq_true (by first | (with_reducible assumption) | assumption)
             obtain ⟨i0103, hi0103, _, hsz103, _⟩ := info_parts info40
             have hroom103 : t394.length ≤ co10 := (Kd.R_reads' HO_4.out).2.1
             have hC103 : Kd.C k40 _ Ao10 t394.length t394 := (Kd.R_reads' HO_4.out).2.2
             have hcut103 := cut_to (P := Try.prog) 30 40 .i64 Try.underlying30 hi0103 Ao10 t394.length co10 (ji50) (of_decide_eq_true (by first | (with_reducible assumption) | assumption)) q103 hroom103
             have hr103 := Kd.C_take (m := ((ji50) : Int).toNat) hC103 (by omega)
             have hy103 : y408.length = ((ji50) : Int).toNat := (by rw [Ny408.out, List.length_take]; omega)
             rw [← Ny408.out] at hr103
             rw [← hy103] at hcut103
             have HR411 := Aside0.mk hr103
             have HC411 := Aside0.mk (show y408.length ≤ co10 from by omega)
             clear hr103 hC103 hroom103 hi0103 hsz103
             have KY103 := Aside0.mk hy103
             clear hy103
             have KL103 := Aside0.mk (show ((ji50) : Int).toNat ≤ t394.length from by omega)
             replace q103 := eq_true q103
             refine start_ (n := 11) (S := fun w' => w'.cell? ⟨gb397, 0, none⟩ = some (.int .i64 t391) ∧ w'.cell? ⟨gb397, 1, none⟩ = some (.int .i64 t392) ∧ w'.cell? ⟨gb397, 2, none⟩ = some (.int .i64 t393)) (ds := []) #[false, false, false, false, false, false, false, false, false, false, false] (by kernel_rfl) rfl rfl ⟨(blk_cell BK397.out 0).trans rfl, (blk_cell BK397.out 1).trans rfl, (blk_cell BK397.out 2).trans rfl⟩ (fun hHeld => ?_); refine with_tabW laws_FnRunClockParts.tab9 laws_FnRunClockParts.bits9 (fun HT_ HW_ => ?_)
             generalize wc.drew = w102 at HO_4 BK397 BK402 BK407 HB HR411 hHeld ⊢
             refine pure_ (i := 1) (N := some 59) (v := ?_) (a' := ?_) #[false, true, false, false, false, false, false, false, false, false, false] rfl rfl (any_of HT_.out (by kernel_rfl)) (fun _ _ _ h => h) (Or.inl ⟨by rfl, ?_⟩) ?_ ?_
             rotate_left
             · intro w'
               go_simp
               with_reducible rfl
             rotate_left
             · simp only [Act.put, List.setIfInBounds_toArray, List.set_cons_zero, List.set_cons_succ, i64_w, i32_w]
               rfl
             refine pure_ (i := 2) (N := some 60) (v := ?_) (a' := ?_) #[false, true, true, false, false, false, false, false, false, false, false] rfl rfl (any_of HT_.out (by kernel_rfl)) (fun _ _ _ h => h) (Or.inl ⟨by rfl, ?_⟩) ?_ ?_
             rotate_left
             · intro w'
               go_simp
               with_reducible rfl
             rotate_left
             · simp only [Act.put, List.setIfInBounds_toArray, List.set_cons_zero, List.set_cons_succ, i64_w, i32_w]
               rfl
             refine pure_ (i := 3) (N := some 61) (v := ?_) (a' := ?_) #[false, true, true, true, false, false, false, false, false, false, false] rfl rfl (any_of HT_.out (by kernel_rfl)) (fun _ _ _ h => h) (Or.inl ⟨by rfl, ?_⟩) ?_ ?_
             rotate_left
             · intro w'
               go_simp
               with_reducible rfl
             rotate_left
             · simp only [Act.put, List.setIfInBounds_toArray, List.set_cons_zero, List.set_cons_succ, i64_w, i32_w]
               rfl
             refine take_ (i := 0) (N := some 58) (v := ?_) (a' := ?_) #[true, true, true, true, false, false, false, false, false, false, false] rfl rfl (take_ofW HT_.out HW_.out (by kernel_rfl)) (fun _ _ _ h => h) (Or.inl ⟨by rfl, ?_⟩) hHeld ?_ ?_
             rotate_left
             · rintro w' ⟨s0, s1, s2⟩
               go_simp
               with_reducible rfl
             rotate_left
             · simp only [Act.put, List.setIfInBounds_toArray, List.set_cons_zero, List.set_cons_succ, i64_w, i32_w]
               rfl
             refine join_ (σ := Nat) 2 #[true, true, true, true, true, true, true, true, true, false, false] (fun s_ => [(62, .tuple #[.agg #[.int .i64 t412, .int .i64 t413, .int .i64 t414], .bool false]), (10, .pointer (some ⟨s_, 0, none⟩)), (57, .tuple #[.agg #[.int .i64 t412, .int .i64 t413, .int .i64 t414], .bool false]), (63, .agg #[.int .i64 t412, .int .i64 t413, .int .i64 t414]), (64, .bool false)]) (fun s_ w' => (w'.cell? ⟨gb397, 0, none⟩ = some (.int .i64 t391) ∧ w'.cell? ⟨gb397, 1, none⟩ = some (.int .i64 t392) ∧ w'.cell? ⟨gb397, 2, none⟩ = some (.int .i64 t393)) ∧ (Kd.R k40 40 w' w.heap.size (fun _ => True) (.slice Ao10 t394.length co10) t394) ∧ (w'.heap[gb397]? = some (.cells #[.int .i64 t391, .int .i64 t392, .int .i64 t393] 26 (0, 0))) ∧ (w'.heap[gb402]? = some (.cells #[.int .i64 t398, .int .i64 t399, .int .i64 t400] 26 (0, 0))) ∧ (w'.heap[gb407]? = some (.cells #[.int .i64 t403, .int .i64 t404, .int .i64 t405] 26 (0, 0))) ∧ (w'.heap[s_]? = some (.cells #[.int .i64 0, .int .i64 0, .int .i64 0] 26 (0, 0))) ∧ (w.heap.size ≤ s_) ∧ (w.heap.size ≤ s_) ∧ (gb397 ≠ s_) ∧ (s_ ≠ gb397) ∧ (gb402 ≠ s_) ∧ (s_ ≠ gb402) ∧ (gb407 ≠ s_) ∧ (s_ ≠ gb407) ∧ (Below w.heap.size w w')) ?_ ?_
             rotate_left
             · intro hCont
               refine two_ (i := 4) (j := 8) (Ni := some 62) (Nj := some 10) #[true, true, true, true, true, false, false, false, false, false, false] #[true, true, true, true, false, false, false, false, true, false, false] rfl rfl rfl rfl (two_of HT_.out (by kernel_rfl)) (by decide) (by decide) (fun K hK => ?_) (fun K hK => ?_)
               · skip
                 refine goes_ Try.func11 (by kernel_rfl) rfl #[.agg #[.int .i64 t391, .int .i64 t392, .int .i64 t393], .slice Ao10 y408.length co10] (by rfl) rfl rfl (by (try simp only [List.map_toArray, List.map_cons, List.map_nil]); first | done | rfl | (simp only [List.length_drop, List.length_take]; rfl)) ?_
                 with_reducible refine (impl_RunClock.calls kj5 t391 t392 t393 _ _ y408 t412 t413 t414 false _ ?side1 ?side2 A53.out).mono ?_
                 (case side1 => repeat (first | exact (by repeat (first | (with_reducible exact HR411.out) | (with_reducible refine Kd.C_alloc ?_ _) | (with_reducible refine Kd.C_drewN ?_ _) | (with_reducible refine Kd.C_drew ?_) | exact HR411.out)) | (with_reducible refine Kd.C_alloc ?_ _) | (with_reducible refine Kd.C_drewN ?_ _) | (with_reducible refine Kd.C_drew ?_)))
                 (case side2 => exact HC411.out)
                 rintro e w104 ⟨rfl, hb⟩
                 refine ⟨_, rfl, ?_⟩
                 have n0_ := Aside0.mk (Kd.R_below (by (with_reducible repeat (first | apply Kd.R_alloc | apply Kd.R_drewN | apply Kd.R_drew)); exact HO_4.out) hb)
                 have n1_ := Aside0.mk (blk_below (g := gb397) (o := .cells #[.int .i64 t391, .int .i64 t392, .int .i64 t393] 26 (0, 0)) (by (with_reducible repeat (first | apply bkN | apply bkD | apply bkA)); exact BK397.out) hb)
                 have n2_ := Aside0.mk (blk_below (g := gb402) (o := .cells #[.int .i64 t398, .int .i64 t399, .int .i64 t400] 26 (0, 0)) (by (with_reducible repeat (first | apply bkN | apply bkD | apply bkA)); exact BK402.out) hb)
                 have n3_ := Aside0.mk (blk_below (g := gb407) (o := .cells #[.int .i64 t403, .int .i64 t404, .int .i64 t405] 26 (0, 0)) (by (with_reducible repeat (first | apply bkN | apply bkD | apply bkA)); exact BK407.out) hb)
                 have n4_ := Aside0.mk (Kd.C_below (by repeat (first | (with_reducible exact HR411.out) | (with_reducible refine Kd.C_alloc ?_ _) | (with_reducible refine Kd.C_drewN ?_ _) | (with_reducible refine Kd.C_drew ?_) | exact HR411.out)) hb)
                 have n5_ := Aside0.mk (below_step (by repeat (first | (with_reducible first | exact HB.out | apply bwA | apply bwN | apply bwD | refine bwS ?_ GE397.out | refine bwS ?_ GE402.out | refine bwS ?_ GE407.out) | exact HB.out)) hb)
                 clear HO_4
                 clear BK397
                 clear BK402
                 clear BK407
                 clear HR411
                 clear HB
                 have HO_4 := n0_
                 have BK397 := n1_
                 have BK402 := n2_
                 have BK407 := n3_
                 have HR411 := n4_
                 have HB := n5_
                 clear n0_ n1_ n2_ n3_ n4_ n5_
                 (try clear hb)
                 (try clear hb2)
                 (try clear hk)
                 (try clear hi)
                 refine hK.out _ _ ⟨(blk_cell BK397.out 0).trans rfl, (blk_cell BK397.out 1).trans rfl, (blk_cell BK397.out 2).trans rfl⟩ (fun hHeld => ?_)
                 clear hK K
                 refine norm_ (a' := ?_) ?_ ?_
                 rotate_left
                 · show Act.put _ (some 62) _ = _
                   simp only [Act.put, List.setIfInBounds_toArray, List.set_cons_zero, List.set_cons_succ, i64_w, i32_w]
                   rfl
                 refine pure_ (i := 5) (N := some 57) (v := ?_) (a' := ?_) #[true, true, true, true, true, true, false, false, false, false, false] rfl rfl (any_of HT_.out (by kernel_rfl)) (fun _ _ _ h => h) (Or.inl ⟨by rfl, ?_⟩) ?_ ?_
                 rotate_left
                 · intro w'
                   go_simp
                   with_reducible rfl
                 rotate_left
                 · simp only [Act.put, List.setIfInBounds_toArray, List.set_cons_zero, List.set_cons_succ, i64_w, i32_w]
                   rfl
                 refine pure_ (i := 6) (N := some 63) (v := ?_) (a' := ?_) #[true, true, true, true, true, true, true, false, false, false, false] rfl rfl (any_of HT_.out (by kernel_rfl)) (fun _ _ _ h => h) (Or.inl ⟨by rfl, ?_⟩) ?_ ?_
                 rotate_left
                 · intro w'
                   go_simp
                   with_reducible rfl
                 rotate_left
                 · simp only [Act.put, List.setIfInBounds_toArray, List.set_cons_zero, List.set_cons_succ, i64_w, i32_w]
                   rfl
                 refine pure_ (i := 7) (N := some 64) (v := ?_) (a' := ?_) #[true, true, true, true, true, true, true, true, false, false, false] rfl rfl (any_of HT_.out (by kernel_rfl)) (fun _ _ _ h => h) (Or.inl ⟨by rfl, ?_⟩) ?_ ?_
                 rotate_left
                 · intro w'
                   go_simp
                   with_reducible rfl
                 rotate_left
                 · simp only [Act.put, List.setIfInBounds_toArray, List.set_cons_zero, List.set_cons_succ, i64_w, i32_w]
                   rfl
                 refine one_ (i := 8) (N := some 10) #[true, true, true, true, true, true, true, true, true, false, false] rfl rfl (one_of HT_.out (by kernel_rfl)) (by decide) (fun K hK => ?_)
                 refine box_step ?hg (N := 10) ?hd (cs := #[.int .i64 0, .int .i64 0, .int .i64 0]) (t := 26) ?hr ?_; (case hd => rfl); (case hg => rfl); (case hr => first | (go_simp; done) | (go_simp; rfl))
                 intro gb416 hg w105 hbox hb
                 have n0_ := Aside0.mk (Kd.R_below (by (with_reducible repeat (first | apply Kd.R_alloc | apply Kd.R_drewN | apply Kd.R_drew)); exact HO_4.out) hb)
                 have n1_ := Aside0.mk (blk_below (g := gb397) (o := .cells #[.int .i64 t391, .int .i64 t392, .int .i64 t393] 26 (0, 0)) (by (with_reducible repeat (first | apply bkN | apply bkD | apply bkA)); exact BK397.out) hb)
                 have n2_ := Aside0.mk (blk_below (g := gb402) (o := .cells #[.int .i64 t398, .int .i64 t399, .int .i64 t400] 26 (0, 0)) (by (with_reducible repeat (first | apply bkN | apply bkD | apply bkA)); exact BK402.out) hb)
                 have n3_ := Aside0.mk (blk_below (g := gb407) (o := .cells #[.int .i64 t403, .int .i64 t404, .int .i64 t405] 26 (0, 0)) (by (with_reducible repeat (first | apply bkN | apply bkD | apply bkA)); exact BK407.out) hb)
                 have n4_ := Aside0.mk (Kd.C_below (by repeat (first | (with_reducible exact HR411.out) | (with_reducible refine Kd.C_alloc ?_ _) | (with_reducible refine Kd.C_drewN ?_ _) | (with_reducible refine Kd.C_drew ?_) | exact HR411.out)) hb)
                 have n5_ := Aside0.mk (below_step (by repeat (first | (with_reducible first | exact HB.out | apply bwA | apply bwN | apply bwD | refine bwS ?_ GE397.out | refine bwS ?_ GE402.out | refine bwS ?_ GE407.out) | exact HB.out)) hb)
                 have n6_ := Aside0.mk (hbox)
                 have n7_ := Aside0.mk ((by rw [hg]; exact (below_size (by repeat (first | (with_reducible first | exact HB.out | apply bwA | apply bwN | apply bwD | refine bwS ?_ GE397.out | refine bwS ?_ GE402.out | refine bwS ?_ GE407.out) | exact HB.out))) : w.heap.size ≤ gb416))
                 have n8_ := Aside0.mk ((by rw [hg]; exact (below_size (by repeat (first | (with_reducible first | exact HB.out | apply bwA | apply bwN | apply bwD | refine bwS ?_ GE397.out | refine bwS ?_ GE402.out | refine bwS ?_ GE407.out) | exact HB.out))) : w.heap.size ≤ gb416))
                 have n9_ := Aside0.mk ((by rw [hg]; exact Nat.ne_of_lt (blk_lt (g := gb397) (o := .cells #[.int .i64 t391, .int .i64 t392, .int .i64 t393] 26 (0, 0)) (by (with_reducible repeat (first | apply bkN | apply bkD | apply bkA)); exact BK397.out)) : gb397 ≠ gb416))
                 have n10_ := Aside0.mk ((by rw [hg]; exact Nat.ne_of_gt (blk_lt (g := gb397) (o := .cells #[.int .i64 t391, .int .i64 t392, .int .i64 t393] 26 (0, 0)) (by (with_reducible repeat (first | apply bkN | apply bkD | apply bkA)); exact BK397.out)) : gb416 ≠ gb397))
                 have n11_ := Aside0.mk ((by rw [hg]; exact Nat.ne_of_lt (blk_lt (g := gb402) (o := .cells #[.int .i64 t398, .int .i64 t399, .int .i64 t400] 26 (0, 0)) (by (with_reducible repeat (first | apply bkN | apply bkD | apply bkA)); exact BK402.out)) : gb402 ≠ gb416))
                 have n12_ := Aside0.mk ((by rw [hg]; exact Nat.ne_of_gt (blk_lt (g := gb402) (o := .cells #[.int .i64 t398, .int .i64 t399, .int .i64 t400] 26 (0, 0)) (by (with_reducible repeat (first | apply bkN | apply bkD | apply bkA)); exact BK402.out)) : gb416 ≠ gb402))
                 have n13_ := Aside0.mk ((by rw [hg]; exact Nat.ne_of_lt (blk_lt (g := gb407) (o := .cells #[.int .i64 t403, .int .i64 t404, .int .i64 t405] 26 (0, 0)) (by (with_reducible repeat (first | apply bkN | apply bkD | apply bkA)); exact BK407.out)) : gb407 ≠ gb416))
                 have n14_ := Aside0.mk ((by rw [hg]; exact Nat.ne_of_gt (blk_lt (g := gb407) (o := .cells #[.int .i64 t403, .int .i64 t404, .int .i64 t405] 26 (0, 0)) (by (with_reducible repeat (first | apply bkN | apply bkD | apply bkA)); exact BK407.out)) : gb416 ≠ gb407))
                 clear HO_4
                 clear BK397
                 clear BK402
                 clear BK407
                 clear HR411
                 clear HB
                 have HO_4 := n0_
                 have BK397 := n1_
                 have BK402 := n2_
                 have BK407 := n3_
                 have HR411 := n4_
                 have HB := n5_
                 have BK416 := n6_
                 have GW416 := n7_
                 have GE416 := n8_
                 have NB397_416 := n9_
                 have NB416_397 := n10_
                 have NB402_416 := n11_
                 have NB416_402 := n12_
                 have NB407_416 := n13_
                 have NB416_407 := n14_
                 clear n0_ n1_ n2_ n3_ n4_ n5_ n6_ n7_ n8_ n9_ n10_ n11_ n12_ n13_ n14_
                 clear hb hbox hg
                 refine hK.out _ _ ⟨(blk_cell BK397.out 0).trans rfl, (blk_cell BK397.out 1).trans rfl, (blk_cell BK397.out 2).trans rfl⟩ (fun hHeld => ?_)
                 clear hK K
                 refine norm_ (a' := ?_) ?_ ?_
                 rotate_left
                 · show Act.put _ (some 10) _ = _
                   simp only [Act.put, List.setIfInBounds_toArray, List.set_cons_zero, List.set_cons_succ, i64_w, i32_w]
                   rfl
                 exact norm_ (by simp only [putAll, Act.put, List.setIfInBounds_toArray, List.set_cons_zero, List.set_cons_succ]) (hCont (gb416) _ ⟨hHeld, (by (with_reducible repeat (first | apply Kd.R_alloc | apply Kd.R_drewN | apply Kd.R_drew)); exact HO_4.out), (by (with_reducible repeat (first | apply bkN | apply bkD | apply bkA)); exact BK397.out), (by (with_reducible repeat (first | apply bkN | apply bkD | apply bkA)); exact BK402.out), (by (with_reducible repeat (first | apply bkN | apply bkD | apply bkA)); exact BK407.out), (by (with_reducible repeat (first | apply bkN | apply bkD | apply bkA)); exact BK416.out), GW416.out, GE416.out, NB397_416.out, NB416_397.out, NB402_416.out, NB416_402.out, NB407_416.out, NB416_407.out, (by repeat (first | (with_reducible first | exact HB.out | apply bwA | apply bwN | apply bwD | refine bwS ?_ GE397.out | refine bwS ?_ GE402.out | refine bwS ?_ GE407.out | refine bwS ?_ GE416.out) | exact HB.out))⟩)
               · skip
                 refine box_step ?hg (N := 10) ?hd (cs := #[.int .i64 0, .int .i64 0, .int .i64 0]) (t := 26) ?hr ?_; (case hd => rfl); (case hg => rfl); (case hr => first | (go_simp; done) | (go_simp; rfl))
                 intro gb416 hg w104 hbox hb
                 have n0_ := Aside0.mk (Kd.R_below (by (with_reducible repeat (first | apply Kd.R_alloc | apply Kd.R_drewN | apply Kd.R_drew)); exact HO_4.out) hb)
                 have n1_ := Aside0.mk (blk_below (g := gb397) (o := .cells #[.int .i64 t391, .int .i64 t392, .int .i64 t393] 26 (0, 0)) (by (with_reducible repeat (first | apply bkN | apply bkD | apply bkA)); exact BK397.out) hb)
                 have n2_ := Aside0.mk (blk_below (g := gb402) (o := .cells #[.int .i64 t398, .int .i64 t399, .int .i64 t400] 26 (0, 0)) (by (with_reducible repeat (first | apply bkN | apply bkD | apply bkA)); exact BK402.out) hb)
                 have n3_ := Aside0.mk (blk_below (g := gb407) (o := .cells #[.int .i64 t403, .int .i64 t404, .int .i64 t405] 26 (0, 0)) (by (with_reducible repeat (first | apply bkN | apply bkD | apply bkA)); exact BK407.out) hb)
                 have n4_ := Aside0.mk (Kd.C_below (by repeat (first | (with_reducible exact HR411.out) | (with_reducible refine Kd.C_alloc ?_ _) | (with_reducible refine Kd.C_drewN ?_ _) | (with_reducible refine Kd.C_drew ?_) | exact HR411.out)) hb)
                 have n5_ := Aside0.mk (below_step (by repeat (first | (with_reducible first | exact HB.out | apply bwA | apply bwN | apply bwD | refine bwS ?_ GE397.out | refine bwS ?_ GE402.out | refine bwS ?_ GE407.out) | exact HB.out)) hb)
                 have n6_ := Aside0.mk (hbox)
                 have n7_ := Aside0.mk ((by rw [hg]; exact (below_size (by repeat (first | (with_reducible first | exact HB.out | apply bwA | apply bwN | apply bwD | refine bwS ?_ GE397.out | refine bwS ?_ GE402.out | refine bwS ?_ GE407.out) | exact HB.out))) : w.heap.size ≤ gb416))
                 have n8_ := Aside0.mk ((by rw [hg]; exact (below_size (by repeat (first | (with_reducible first | exact HB.out | apply bwA | apply bwN | apply bwD | refine bwS ?_ GE397.out | refine bwS ?_ GE402.out | refine bwS ?_ GE407.out) | exact HB.out))) : w.heap.size ≤ gb416))
                 have n9_ := Aside0.mk ((by rw [hg]; exact Nat.ne_of_lt (blk_lt (g := gb397) (o := .cells #[.int .i64 t391, .int .i64 t392, .int .i64 t393] 26 (0, 0)) (by (with_reducible repeat (first | apply bkN | apply bkD | apply bkA)); exact BK397.out)) : gb397 ≠ gb416))
                 have n10_ := Aside0.mk ((by rw [hg]; exact Nat.ne_of_gt (blk_lt (g := gb397) (o := .cells #[.int .i64 t391, .int .i64 t392, .int .i64 t393] 26 (0, 0)) (by (with_reducible repeat (first | apply bkN | apply bkD | apply bkA)); exact BK397.out)) : gb416 ≠ gb397))
                 have n11_ := Aside0.mk ((by rw [hg]; exact Nat.ne_of_lt (blk_lt (g := gb402) (o := .cells #[.int .i64 t398, .int .i64 t399, .int .i64 t400] 26 (0, 0)) (by (with_reducible repeat (first | apply bkN | apply bkD | apply bkA)); exact BK402.out)) : gb402 ≠ gb416))
                 have n12_ := Aside0.mk ((by rw [hg]; exact Nat.ne_of_gt (blk_lt (g := gb402) (o := .cells #[.int .i64 t398, .int .i64 t399, .int .i64 t400] 26 (0, 0)) (by (with_reducible repeat (first | apply bkN | apply bkD | apply bkA)); exact BK402.out)) : gb416 ≠ gb402))
                 have n13_ := Aside0.mk ((by rw [hg]; exact Nat.ne_of_lt (blk_lt (g := gb407) (o := .cells #[.int .i64 t403, .int .i64 t404, .int .i64 t405] 26 (0, 0)) (by (with_reducible repeat (first | apply bkN | apply bkD | apply bkA)); exact BK407.out)) : gb407 ≠ gb416))
                 have n14_ := Aside0.mk ((by rw [hg]; exact Nat.ne_of_gt (blk_lt (g := gb407) (o := .cells #[.int .i64 t403, .int .i64 t404, .int .i64 t405] 26 (0, 0)) (by (with_reducible repeat (first | apply bkN | apply bkD | apply bkA)); exact BK407.out)) : gb416 ≠ gb407))
                 clear HO_4
                 clear BK397
                 clear BK402
                 clear BK407
                 clear HR411
                 clear HB
                 have HO_4 := n0_
                 have BK397 := n1_
                 have BK402 := n2_
                 have BK407 := n3_
                 have HR411 := n4_
                 have HB := n5_
                 have BK416 := n6_
                 have GW416 := n7_
                 have GE416 := n8_
                 have NB397_416 := n9_
                 have NB416_397 := n10_
                 have NB402_416 := n11_
                 have NB416_402 := n12_
                 have NB407_416 := n13_
                 have NB416_407 := n14_
                 clear n0_ n1_ n2_ n3_ n4_ n5_ n6_ n7_ n8_ n9_ n10_ n11_ n12_ n13_ n14_
                 clear hb hbox hg
                 refine hK.out _ _ ⟨(blk_cell BK397.out 0).trans rfl, (blk_cell BK397.out 1).trans rfl, (blk_cell BK397.out 2).trans rfl⟩ (fun hHeld => ?_)
                 clear hK K
                 refine norm_ (a' := ?_) ?_ ?_
                 rotate_left
                 · show Act.put _ (some 10) _ = _
                   simp only [Act.put, List.setIfInBounds_toArray, List.set_cons_zero, List.set_cons_succ, i64_w, i32_w]
                   rfl
                 refine one_ (i := 4) (N := some 62) #[true, true, true, true, true, false, false, false, true, false, false] rfl rfl (one_of HT_.out (by kernel_rfl)) (by decide) (fun K hK => ?_)
                 refine goes_ Try.func11 (by kernel_rfl) rfl #[.agg #[.int .i64 t391, .int .i64 t392, .int .i64 t393], .slice Ao10 y408.length co10] (by rfl) rfl rfl (by (try simp only [List.map_toArray, List.map_cons, List.map_nil]); first | done | rfl | (simp only [List.length_drop, List.length_take]; rfl)) ?_
                 with_reducible refine (impl_RunClock.calls kj5 t391 t392 t393 _ _ y408 t412 t413 t414 false _ ?side1 ?side2 A53.out).mono ?_
                 (case side1 => repeat (first | exact (by repeat (first | (with_reducible exact HR411.out) | (with_reducible refine Kd.C_alloc ?_ _) | (with_reducible refine Kd.C_drewN ?_ _) | (with_reducible refine Kd.C_drew ?_) | exact HR411.out)) | (with_reducible refine Kd.C_alloc ?_ _) | (with_reducible refine Kd.C_drewN ?_ _) | (with_reducible refine Kd.C_drew ?_)))
                 (case side2 => exact HC411.out)
                 rintro e w105 ⟨rfl, hb⟩
                 refine ⟨_, rfl, ?_⟩
                 have n0_ := Aside0.mk (Kd.R_below (by (with_reducible repeat (first | apply Kd.R_alloc | apply Kd.R_drewN | apply Kd.R_drew)); exact HO_4.out) hb)
                 have n1_ := Aside0.mk (blk_below (g := gb397) (o := .cells #[.int .i64 t391, .int .i64 t392, .int .i64 t393] 26 (0, 0)) (by (with_reducible repeat (first | apply bkN | apply bkD | apply bkA)); exact BK397.out) hb)
                 have n2_ := Aside0.mk (blk_below (g := gb402) (o := .cells #[.int .i64 t398, .int .i64 t399, .int .i64 t400] 26 (0, 0)) (by (with_reducible repeat (first | apply bkN | apply bkD | apply bkA)); exact BK402.out) hb)
                 have n3_ := Aside0.mk (blk_below (g := gb407) (o := .cells #[.int .i64 t403, .int .i64 t404, .int .i64 t405] 26 (0, 0)) (by (with_reducible repeat (first | apply bkN | apply bkD | apply bkA)); exact BK407.out) hb)
                 have n4_ := Aside0.mk (Kd.C_below (by repeat (first | (with_reducible exact HR411.out) | (with_reducible refine Kd.C_alloc ?_ _) | (with_reducible refine Kd.C_drewN ?_ _) | (with_reducible refine Kd.C_drew ?_) | exact HR411.out)) hb)
                 have n5_ := Aside0.mk (blk_below (g := gb416) (o := .cells #[.int .i64 0, .int .i64 0, .int .i64 0] 26 (0, 0)) (by (with_reducible repeat (first | apply bkN | apply bkD | apply bkA)); exact BK416.out) hb)
                 have n6_ := Aside0.mk (below_step (by repeat (first | (with_reducible first | exact HB.out | apply bwA | apply bwN | apply bwD | refine bwS ?_ GE397.out | refine bwS ?_ GE402.out | refine bwS ?_ GE407.out | refine bwS ?_ GE416.out) | exact HB.out)) hb)
                 clear HO_4
                 clear BK397
                 clear BK402
                 clear BK407
                 clear HR411
                 clear BK416
                 clear HB
                 have HO_4 := n0_
                 have BK397 := n1_
                 have BK402 := n2_
                 have BK407 := n3_
                 have HR411 := n4_
                 have BK416 := n5_
                 have HB := n6_
                 clear n0_ n1_ n2_ n3_ n4_ n5_ n6_
                 (try clear hb)
                 (try clear hb2)
                 (try clear hk)
                 (try clear hi)
                 refine hK.out _ _ ⟨(blk_cell BK397.out 0).trans rfl, (blk_cell BK397.out 1).trans rfl, (blk_cell BK397.out 2).trans rfl⟩ (fun hHeld => ?_)
                 clear hK K
                 refine norm_ (a' := ?_) ?_ ?_
                 rotate_left
                 · show Act.put _ (some 62) _ = _
                   simp only [Act.put, List.setIfInBounds_toArray, List.set_cons_zero, List.set_cons_succ, i64_w, i32_w]
                   rfl
                 refine pure_ (i := 5) (N := some 57) (v := ?_) (a' := ?_) #[true, true, true, true, true, true, false, false, true, false, false] rfl rfl (any_of HT_.out (by kernel_rfl)) (fun _ _ _ h => h) (Or.inl ⟨by rfl, ?_⟩) ?_ ?_
                 rotate_left
                 · intro w'
                   go_simp
                   with_reducible rfl
                 rotate_left
                 · simp only [Act.put, List.setIfInBounds_toArray, List.set_cons_zero, List.set_cons_succ, i64_w, i32_w]
                   rfl
                 refine pure_ (i := 6) (N := some 63) (v := ?_) (a' := ?_) #[true, true, true, true, true, true, true, false, true, false, false] rfl rfl (any_of HT_.out (by kernel_rfl)) (fun _ _ _ h => h) (Or.inl ⟨by rfl, ?_⟩) ?_ ?_
                 rotate_left
                 · intro w'
                   go_simp
                   with_reducible rfl
                 rotate_left
                 · simp only [Act.put, List.setIfInBounds_toArray, List.set_cons_zero, List.set_cons_succ, i64_w, i32_w]
                   rfl
                 refine pure_ (i := 7) (N := some 64) (v := ?_) (a' := ?_) #[true, true, true, true, true, true, true, true, true, false, false] rfl rfl (any_of HT_.out (by kernel_rfl)) (fun _ _ _ h => h) (Or.inl ⟨by rfl, ?_⟩) ?_ ?_
                 rotate_left
                 · intro w'
                   go_simp
                   with_reducible rfl
                 rotate_left
                 · simp only [Act.put, List.setIfInBounds_toArray, List.set_cons_zero, List.set_cons_succ, i64_w, i32_w]
                   rfl
                 exact norm_ (by simp only [putAll, Act.put, List.setIfInBounds_toArray, List.set_cons_zero, List.set_cons_succ]) (hCont (gb416) _ ⟨hHeld, (by (with_reducible repeat (first | apply Kd.R_alloc | apply Kd.R_drewN | apply Kd.R_drew)); exact HO_4.out), (by (with_reducible repeat (first | apply bkN | apply bkD | apply bkA)); exact BK397.out), (by (with_reducible repeat (first | apply bkN | apply bkD | apply bkA)); exact BK402.out), (by (with_reducible repeat (first | apply bkN | apply bkD | apply bkA)); exact BK407.out), (by (with_reducible repeat (first | apply bkN | apply bkD | apply bkA)); exact BK416.out), GW416.out, GE416.out, NB397_416.out, NB416_397.out, NB402_416.out, NB416_402.out, NB407_416.out, NB416_407.out, (by repeat (first | (with_reducible first | exact HB.out | apply bwA | apply bwN | apply bwD | refine bwS ?_ GE397.out | refine bwS ?_ GE402.out | refine bwS ?_ GE407.out | refine bwS ?_ GE416.out) | exact HB.out))⟩)
             rintro gb416 w106 ⟨hS_, h0_, h1_, h2_, h3_, h4_, h5_, h6_, h7_, h8_, h9_, h10_, h11_, h12_, h13_⟩
             have n0_ : Aside0 (Kd.R k40 40 w106 w.heap.size (fun _ => True) (.slice Ao10 t394.length co10) t394) := ⟨h0_⟩
             have n1_ : Aside0 (w106.heap[gb397]? = some (.cells #[.int .i64 t391, .int .i64 t392, .int .i64 t393] 26 (0, 0))) := ⟨h1_⟩
             have n2_ : Aside0 (w106.heap[gb402]? = some (.cells #[.int .i64 t398, .int .i64 t399, .int .i64 t400] 26 (0, 0))) := ⟨h2_⟩
             have n3_ : Aside0 (w106.heap[gb407]? = some (.cells #[.int .i64 t403, .int .i64 t404, .int .i64 t405] 26 (0, 0))) := ⟨h3_⟩
             have n4_ : Aside0 (w106.heap[gb416]? = some (.cells #[.int .i64 0, .int .i64 0, .int .i64 0] 26 (0, 0))) := ⟨h4_⟩
             have n5_ : Aside0 (w.heap.size ≤ gb416) := ⟨h5_⟩
             have n6_ : Aside0 (w.heap.size ≤ gb416) := ⟨h6_⟩
             have n7_ : Aside0 (gb397 ≠ gb416) := ⟨h7_⟩
             have n8_ : Aside0 (gb416 ≠ gb397) := ⟨h8_⟩
             have n9_ : Aside0 (gb402 ≠ gb416) := ⟨h9_⟩
             have n10_ : Aside0 (gb416 ≠ gb402) := ⟨h10_⟩
             have n11_ : Aside0 (gb407 ≠ gb416) := ⟨h11_⟩
             have n12_ : Aside0 (gb416 ≠ gb407) := ⟨h12_⟩
             have n13_ : Aside0 (Below w.heap.size w w106) := ⟨h13_⟩
             clear HO_4
             clear BK397
             clear BK402
             clear BK407
             clear HB
             clear h0_ h1_ h2_ h3_ h4_ h5_ h6_ h7_ h8_ h9_ h10_ h11_ h12_ h13_
             have HO_4 := n0_
             have BK397 := n1_
             have BK402 := n2_
             have BK407 := n3_
             have BK416 := n4_
             have GW416 := n5_
             have GE416 := n6_
             have NB397_416 := n7_
             have NB416_397 := n8_
             have NB402_416 := n9_
             have NB416_402 := n10_
             have NB407_416 := n11_
             have NB416_407 := n12_
             have HB := n13_
             clear n0_ n1_ n2_ n3_ n4_ n5_ n6_ n7_ n8_ n9_ n10_ n11_ n12_ n13_
             have hHeld : w106.cell? ⟨gb397, 0, none⟩ = some (.int .i64 t391) ∧ w106.cell? ⟨gb397, 1, none⟩ = some (.int .i64 t392) ∧ w106.cell? ⟨gb397, 2, none⟩ = some (.int .i64 t393) := hS_
             refine norm_ (a' := ?_) ?_ ?_
             rotate_left
             · simp only [putAll, Act.put, List.setIfInBounds_toArray, List.set_cons_zero, List.set_cons_succ]
               rfl
             refine one_ (i := 9) (N := none) #[true, true, true, true, true, true, true, true, true, true, false] rfl rfl (one_of HT_.out (by kernel_rfl)) (by decide) (fun K hK => ?_)
             have hs107 : w106.cell? ⟨gb416, 0, none⟩ = some (.int .i64 0) := (blk_cell BK416.out 0).trans rfl
             have hfs107 := blk_frozen BK416.out 0
             have hns107_0 := NB397_416.out
             have hns107_1 := NB402_416.out
             have hns107_2 := NB407_416.out
             have hms107_0 := NB416_397.out
             have hms107_1 := NB416_402.out
             have hms107_2 := NB416_407.out
             have hs108 : w106.cell? ⟨gb416, 1, none⟩ = some (.int .i64 0) := (blk_cell BK416.out 1).trans rfl
             have hfs108 := blk_frozen BK416.out 1
             have hns108_0 := NB397_416.out
             have hns108_1 := NB402_416.out
             have hns108_2 := NB407_416.out
             have hms108_0 := NB416_397.out
             have hms108_1 := NB416_402.out
             have hms108_2 := NB416_407.out
             have hs109 : w106.cell? ⟨gb416, 2, none⟩ = some (.int .i64 0) := (blk_cell BK416.out 2).trans rfl
             have hfs109 := blk_frozen BK416.out 2
             have hns109_0 := NB397_416.out
             have hns109_1 := NB402_416.out
             have hns109_2 := NB407_416.out
             have hms109_0 := NB416_397.out
             have hms109_1 := NB416_402.out
             have hms109_2 := NB416_407.out
             refine skip_ (w1 := ?_) (by rfl) rfl ?_ ?_
             rotate_left
             · go_simp
               rfl
             refine hK.out _ _ ⟨((cell_far (p := ⟨gb416, _, none⟩) NB397_416.out _).trans (((cell_far (p := ⟨gb416, _, none⟩) NB397_416.out _).trans (((cell_far (p := ⟨gb416, _, none⟩) NB397_416.out _).trans (hHeld.1)))))), ((cell_far (p := ⟨gb416, _, none⟩) NB397_416.out _).trans (((cell_far (p := ⟨gb416, _, none⟩) NB397_416.out _).trans (((cell_far (p := ⟨gb416, _, none⟩) NB397_416.out _).trans (hHeld.2.1)))))), ((cell_far (p := ⟨gb416, _, none⟩) NB397_416.out _).trans (((cell_far (p := ⟨gb416, _, none⟩) NB397_416.out _).trans (((cell_far (p := ⟨gb416, _, none⟩) NB397_416.out _).trans (hHeld.2.2))))))⟩ (fun hHeld => ?_)
             clear hK K
             refine pure_ (i := 10) (N := some 11) (v := ?_) (a' := ?_) #[true, true, true, true, true, true, true, true, true, true, true] rfl rfl (any_of HT_.out (by kernel_rfl)) (fun _ _ _ h => h) (Or.inl ⟨by rfl, ?_⟩) ?_ ?_
             rotate_left
             · intro w'
               go_simp
               with_reducible rfl
             rotate_left
             · simp only [Act.put, List.setIfInBounds_toArray, List.set_cons_zero, List.set_cons_succ, i64_w, i32_w]
               rfl
             refine done_ (done_of HT_.out (by kernel_rfl)) ?_
             try go_wp2
             have n0_ : Aside0 (Kd.R k40 40 (((w106.setCell ⟨gb416, 0, none⟩ (.int .i64 t412)).setCell ⟨gb416, 1, none⟩ (.int .i64 t413)).setCell ⟨gb416, 2, none⟩ (.int .i64 t414)) w.heap.size (fun _ => True) (.slice Ao10 t394.length co10) t394) := ⟨by (with_reducible repeat (first | apply Kd.R_alloc | apply Kd.R_drewN | apply Kd.R_drew)); exact Kd.R_mono (Kd.R_far (p := ⟨gb416, 2, none⟩) (Kd.R_far (p := ⟨gb416, 1, none⟩) (Kd.R_far (p := ⟨gb416, 0, none⟩) (Kd.R_types HO_4.out BK416.out (by decide)) (fun _ hk => hk.2) (.int .i64 t412)) (fun _ hk => hk.2) (.int .i64 t413)) (fun _ hk => hk.2) (.int .i64 t414)) (fun _ hk => trivial)⟩
             have n1_ : Aside0 ((((w106.setCell ⟨gb416, 0, none⟩ (.int .i64 t412)).setCell ⟨gb416, 1, none⟩ (.int .i64 t413)).setCell ⟨gb416, 2, none⟩ (.int .i64 t414)).heap[gb397]? = some (.cells #[.int .i64 t391, .int .i64 t392, .int .i64 t393] 26 (0, 0))) := ⟨by (with_reducible repeat (first | apply bkN | apply bkD | apply bkA)); refine blk_far ?_ NB397_416.out _; (with_reducible repeat (first | apply bkN | apply bkD | apply bkA)); refine blk_far ?_ NB397_416.out _; (with_reducible repeat (first | apply bkN | apply bkD | apply bkA)); refine blk_far ?_ NB397_416.out _; (with_reducible repeat (first | apply bkN | apply bkD | apply bkA)); exact BK397.out⟩
             have n2_ : Aside0 ((((w106.setCell ⟨gb416, 0, none⟩ (.int .i64 t412)).setCell ⟨gb416, 1, none⟩ (.int .i64 t413)).setCell ⟨gb416, 2, none⟩ (.int .i64 t414)).heap[gb402]? = some (.cells #[.int .i64 t398, .int .i64 t399, .int .i64 t400] 26 (0, 0))) := ⟨by (with_reducible repeat (first | apply bkN | apply bkD | apply bkA)); refine blk_far ?_ NB402_416.out _; (with_reducible repeat (first | apply bkN | apply bkD | apply bkA)); refine blk_far ?_ NB402_416.out _; (with_reducible repeat (first | apply bkN | apply bkD | apply bkA)); refine blk_far ?_ NB402_416.out _; (with_reducible repeat (first | apply bkN | apply bkD | apply bkA)); exact BK402.out⟩
             have n3_ : Aside0 ((((w106.setCell ⟨gb416, 0, none⟩ (.int .i64 t412)).setCell ⟨gb416, 1, none⟩ (.int .i64 t413)).setCell ⟨gb416, 2, none⟩ (.int .i64 t414)).heap[gb407]? = some (.cells #[.int .i64 t403, .int .i64 t404, .int .i64 t405] 26 (0, 0))) := ⟨by (with_reducible repeat (first | apply bkN | apply bkD | apply bkA)); refine blk_far ?_ NB407_416.out _; (with_reducible repeat (first | apply bkN | apply bkD | apply bkA)); refine blk_far ?_ NB407_416.out _; (with_reducible repeat (first | apply bkN | apply bkD | apply bkA)); refine blk_far ?_ NB407_416.out _; (with_reducible repeat (first | apply bkN | apply bkD | apply bkA)); exact BK407.out⟩
             have n4_ : Aside0 ((((w106.setCell ⟨gb416, 0, none⟩ (.int .i64 t412)).setCell ⟨gb416, 1, none⟩ (.int .i64 t413)).setCell ⟨gb416, 2, none⟩ (.int .i64 t414)).heap[gb416]? = some (.cells #[.int .i64 t412, .int .i64 t413, .int .i64 t414] 26 (0, 0))) := ⟨by (with_reducible repeat (first | apply bkN | apply bkD | apply bkA)); refine blk_put (cs := #[.int .i64 t412, .int .i64 t413, .int .i64 0]) ?_ 2 _ rfl; (with_reducible repeat (first | apply bkN | apply bkD | apply bkA)); refine blk_put (cs := #[.int .i64 t412, .int .i64 0, .int .i64 0]) ?_ 1 _ rfl; (with_reducible repeat (first | apply bkN | apply bkD | apply bkA)); refine blk_put (cs := #[.int .i64 0, .int .i64 0, .int .i64 0]) ?_ 0 _ rfl; (with_reducible repeat (first | apply bkN | apply bkD | apply bkA)); exact BK416.out⟩
             have n5_ : Aside0 (Below w.heap.size w (((w106.setCell ⟨gb416, 0, none⟩ (.int .i64 t412)).setCell ⟨gb416, 1, none⟩ (.int .i64 t413)).setCell ⟨gb416, 2, none⟩ (.int .i64 t414))) := ⟨by repeat (first | (with_reducible first | exact HB.out | apply bwA | apply bwN | apply bwD | refine bwS ?_ GE397.out | refine bwS ?_ GE402.out | refine bwS ?_ GE407.out | refine bwS ?_ GE416.out) | exact HB.out)⟩
             (try clear HO_4)
             (try clear BK397)
             (try clear BK402)
             (try clear BK407)
             (try clear BK416)
             (try clear HB)
             generalize (((w106.setCell ⟨gb416, 0, none⟩ (.int .i64 t412)).setCell ⟨gb416, 1, none⟩ (.int .i64 t413)).setCell ⟨gb416, 2, none⟩ (.int .i64 t414)) = w110 at n0_ n1_ n2_ n3_ n4_ n5_ ⊢
             have HO_4 := n0_
             have BK397 := n1_
             have BK402 := n2_
             have BK407 := n3_
             have BK416 := n4_
             have HB := n5_
             clear n0_ n1_ n2_ n3_ n4_ n5_
             have n0_ := Aside0.mk (Kd.R_drew HO_4.out)
             have n1_ := Aside0.mk (bkD BK397.out)
             have n2_ := Aside0.mk (bkD BK402.out)
             have n3_ := Aside0.mk (bkD BK407.out)
             have n4_ := Aside0.mk (bkD BK416.out)
             have n5_ := Aside0.mk (bwD HB.out)
             clear HO_4
             clear BK397
             clear BK402
             clear BK407
             clear BK416
             clear HB
             have HO_4 := n0_
             have BK397 := n1_
             have BK402 := n2_
             have BK407 := n3_
             have BK416 := n4_
             have HB := n5_
             clear n0_ n1_ n2_ n3_ n4_ n5_
             have q112 : ((ji50) : Int) ≤ ((t394.length : Int) : Int) := of_decide_eq_true (by first | (with_reducible assumption) | assumption)
             obtain ⟨i0112, hi0112, _, hsz112, _⟩ := info_parts info40
             have hroom112 : t394.length ≤ co10 := (Kd.R_reads' HO_4.out).2.1
             have hC112 : Kd.C k40 _ Ao10 t394.length t394 := (Kd.R_reads' HO_4.out).2.2
             have q0112 : (0 : Int) ≤ ((ji50) : Int) := of_decide_eq_true (by first | (with_reducible assumption) | assumption)
             have hcut112 := cut_from (P := Try.prog) 30 40 .i64 Try.underlying30 hi0112 3 hsz112 Ao10 t394.length co10 (ji50) q0112 q112
             have hr112 := Kd.C_drop (m := ((ji50) : Int).toNat) (c := co10) hC112 (by omega) hroom112
             obtain ⟨A112, hA112⟩ : ∃ A1, A1 = (if co10 = ((ji50) : Int).toNat then Ao10 else (Ao10 : Option Addr).map (·.add (((ji50) : Int).toNat * 3))) := ⟨_, rfl⟩
             obtain ⟨c112, hc112⟩ : ∃ c1, c1 = co10 - ((ji50) : Int).toNat := ⟨_, rfl⟩
             have hy112 : y417.length = t394.length - ((ji50) : Int).toNat := (by rw [Ny417.out, List.length_drop] <;> omega)
             rw [show (t394).drop ((ji50) : Int).toNat = y417 from Ny417.out.symm] at hr112
             replace hr112 : Kd.C k40 _ A112 y417.length y417 := (by rw [hA112]; exact hr112)
             rw [← hy112, ← hA112, ← hc112] at hcut112
             have HR420 := Aside0.mk hr112
             have HC420 := Aside0.mk (show y417.length ≤ c112 from by rw [hy112, hc112]; exact Nat.sub_le_sub_right hroom112 _)
             clear hr112 hC112 hroom112 hi0112 hsz112 hc112
             have KY112 := Aside0.mk hy112
             have KA112 := Aside0.mk hA112
             clear hy112 hA112
             have KL112 := Aside0.mk (show ((ji50) : Int).toNat ≤ t394.length from by omega)
             replace q112 := eq_true q112
             refine start_ (n := 11) (S := fun w' => w'.cell? ⟨gb416, 0, none⟩ = some (.int .i64 t412) ∧ w'.cell? ⟨gb416, 1, none⟩ = some (.int .i64 t413) ∧ w'.cell? ⟨gb416, 2, none⟩ = some (.int .i64 t414)) (ds := []) #[false, false, false, false, false, false, false, false, false, false, false] (by kernel_rfl) rfl rfl ⟨(blk_cell BK416.out 0).trans rfl, (blk_cell BK416.out 1).trans rfl, (blk_cell BK416.out 2).trans rfl⟩ (fun hHeld => ?_); refine with_tabW laws_FnRunClockParts.tab10 laws_FnRunClockParts.bits10 (fun HT_ HW_ => ?_)
             generalize w110.drew = w111 at HO_4 BK397 BK402 BK407 BK416 HB HR420 hHeld ⊢
             refine pure_ (i := 1) (N := some 67) (v := ?_) (a' := ?_) #[false, true, false, false, false, false, false, false, false, false, false] rfl rfl (any_of HT_.out (by kernel_rfl)) (fun _ _ _ h => h) (Or.inl ⟨by rfl, ?_⟩) ?_ ?_
             rotate_left
             · intro w'
               go_simp
               with_reducible rfl
             rotate_left
             · simp only [Act.put, List.setIfInBounds_toArray, List.set_cons_zero, List.set_cons_succ, i64_w, i32_w]
               rfl
             refine pure_ (i := 2) (N := some 68) (v := ?_) (a' := ?_) #[false, true, true, false, false, false, false, false, false, false, false] rfl rfl (any_of HT_.out (by kernel_rfl)) (fun _ _ _ h => h) (Or.inl ⟨by rfl, ?_⟩) ?_ ?_
             rotate_left
             · intro w'
               go_simp
               with_reducible rfl
             rotate_left
             · simp only [Act.put, List.setIfInBounds_toArray, List.set_cons_zero, List.set_cons_succ, i64_w, i32_w]
               rfl
             refine pure_ (i := 3) (N := some 69) (v := ?_) (a' := ?_) #[false, true, true, true, false, false, false, false, false, false, false] rfl rfl (any_of HT_.out (by kernel_rfl)) (fun _ _ _ h => h) (Or.inl ⟨by rfl, ?_⟩) ?_ ?_
             rotate_left
             · intro w'
               go_simp
               with_reducible rfl
             rotate_left
             · simp only [Act.put, List.setIfInBounds_toArray, List.set_cons_zero, List.set_cons_succ, i64_w, i32_w]
               rfl
             refine take_ (i := 0) (N := some 66) (v := ?_) (a' := ?_) #[true, true, true, true, false, false, false, false, false, false, false] rfl rfl (take_ofW HT_.out HW_.out (by kernel_rfl)) (fun _ _ _ h => h) (Or.inl ⟨by rfl, ?_⟩) hHeld ?_ ?_
             rotate_left
             · rintro w' ⟨s0, s1, s2⟩
               go_simp
               with_reducible rfl
             rotate_left
             · simp only [Act.put, List.setIfInBounds_toArray, List.set_cons_zero, List.set_cons_succ, i64_w, i32_w]
               rfl
             refine join_ (σ := Nat) 2 #[true, true, true, true, true, true, true, true, true, false, false] (fun s_ => [(70, .tuple #[.agg #[.int .i64 t421, .int .i64 t422, .int .i64 t423], .bool t424]), (12, .pointer (some ⟨s_, 0, none⟩)), (65, .tuple #[.agg #[.int .i64 t421, .int .i64 t422, .int .i64 t423], .bool t424]), (71, .agg #[.int .i64 t421, .int .i64 t422, .int .i64 t423]), (72, .bool t424)]) (fun s_ w' => (w'.cell? ⟨gb416, 0, none⟩ = some (.int .i64 t412) ∧ w'.cell? ⟨gb416, 1, none⟩ = some (.int .i64 t413) ∧ w'.cell? ⟨gb416, 2, none⟩ = some (.int .i64 t414)) ∧ (Kd.R k40 40 w' w.heap.size (fun _ => True) (.slice Ao10 t394.length co10) t394) ∧ (w'.heap[gb397]? = some (.cells #[.int .i64 t391, .int .i64 t392, .int .i64 t393] 26 (0, 0))) ∧ (w'.heap[gb402]? = some (.cells #[.int .i64 t398, .int .i64 t399, .int .i64 t400] 26 (0, 0))) ∧ (w'.heap[gb407]? = some (.cells #[.int .i64 t403, .int .i64 t404, .int .i64 t405] 26 (0, 0))) ∧ (w'.heap[gb416]? = some (.cells #[.int .i64 t412, .int .i64 t413, .int .i64 t414] 26 (0, 0))) ∧ (w'.heap[s_]? = some (.cells #[.int .i64 0, .int .i64 0, .int .i64 0] 26 (0, 0))) ∧ (w.heap.size ≤ s_) ∧ (w.heap.size ≤ s_) ∧ (gb397 ≠ s_) ∧ (s_ ≠ gb397) ∧ (gb402 ≠ s_) ∧ (s_ ≠ gb402) ∧ (gb407 ≠ s_) ∧ (s_ ≠ gb407) ∧ (gb416 ≠ s_) ∧ (s_ ≠ gb416) ∧ (Below w.heap.size w w')) ?_ ?_
             rotate_left
             · intro hCont
               refine two_ (i := 4) (j := 8) (Ni := some 70) (Nj := some 12) #[true, true, true, true, true, false, false, false, false, false, false] #[true, true, true, true, false, false, false, false, true, false, false] rfl rfl rfl rfl (two_of HT_.out (by kernel_rfl)) (by decide) (by decide) (fun K hK => ?_) (fun K hK => ?_)
               · skip
                 refine goes_ Try.func11 (by kernel_rfl) rfl #[.agg #[.int .i64 t412, .int .i64 t413, .int .i64 t414], .slice A112 y417.length c112] (by rfl) rfl rfl (by (try simp only [List.map_toArray, List.map_cons, List.map_nil]); first | done | rfl | (simp only [List.length_drop, List.length_take]; rfl)) ?_
                 with_reducible refine (impl_RunClock.calls kj5 t412 t413 t414 _ _ y417 t421 t422 t423 t424 _ ?side1 ?side2 A56.out).mono ?_
                 (case side1 => repeat (first | exact (by repeat (first | (with_reducible exact HR420.out) | (with_reducible refine Kd.C_alloc ?_ _) | (with_reducible refine Kd.C_drewN ?_ _) | (with_reducible refine Kd.C_drew ?_) | exact HR420.out)) | (with_reducible refine Kd.C_alloc ?_ _) | (with_reducible refine Kd.C_drewN ?_ _) | (with_reducible refine Kd.C_drew ?_)))
                 (case side2 => exact HC420.out)
                 rintro e w113 ⟨rfl, hb⟩
                 refine ⟨_, rfl, ?_⟩
                 have n0_ := Aside0.mk (Kd.R_below (by (with_reducible repeat (first | apply Kd.R_alloc | apply Kd.R_drewN | apply Kd.R_drew)); exact HO_4.out) hb)
                 have n1_ := Aside0.mk (blk_below (g := gb397) (o := .cells #[.int .i64 t391, .int .i64 t392, .int .i64 t393] 26 (0, 0)) (by (with_reducible repeat (first | apply bkN | apply bkD | apply bkA)); exact BK397.out) hb)
                 have n2_ := Aside0.mk (blk_below (g := gb402) (o := .cells #[.int .i64 t398, .int .i64 t399, .int .i64 t400] 26 (0, 0)) (by (with_reducible repeat (first | apply bkN | apply bkD | apply bkA)); exact BK402.out) hb)
                 have n3_ := Aside0.mk (blk_below (g := gb407) (o := .cells #[.int .i64 t403, .int .i64 t404, .int .i64 t405] 26 (0, 0)) (by (with_reducible repeat (first | apply bkN | apply bkD | apply bkA)); exact BK407.out) hb)
                 have n4_ := Aside0.mk (blk_below (g := gb416) (o := .cells #[.int .i64 t412, .int .i64 t413, .int .i64 t414] 26 (0, 0)) (by (with_reducible repeat (first | apply bkN | apply bkD | apply bkA)); exact BK416.out) hb)
                 have n5_ := Aside0.mk (Kd.C_below (by repeat (first | (with_reducible exact HR420.out) | (with_reducible refine Kd.C_alloc ?_ _) | (with_reducible refine Kd.C_drewN ?_ _) | (with_reducible refine Kd.C_drew ?_) | exact HR420.out)) hb)
                 have n6_ := Aside0.mk (below_step (by repeat (first | (with_reducible first | exact HB.out | apply bwA | apply bwN | apply bwD | refine bwS ?_ GE397.out | refine bwS ?_ GE402.out | refine bwS ?_ GE407.out | refine bwS ?_ GE416.out) | exact HB.out)) hb)
                 clear HO_4
                 clear BK397
                 clear BK402
                 clear BK407
                 clear BK416
                 clear HR420
                 clear HB
                 have HO_4 := n0_
                 have BK397 := n1_
                 have BK402 := n2_
                 have BK407 := n3_
                 have BK416 := n4_
                 have HR420 := n5_
                 have HB := n6_
                 clear n0_ n1_ n2_ n3_ n4_ n5_ n6_
                 (try clear hb)
                 (try clear hb2)
                 (try clear hk)
                 (try clear hi)
                 refine hK.out _ _ ⟨(blk_cell BK416.out 0).trans rfl, (blk_cell BK416.out 1).trans rfl, (blk_cell BK416.out 2).trans rfl⟩ (fun hHeld => ?_)
                 clear hK K
                 refine norm_ (a' := ?_) ?_ ?_
                 rotate_left
                 · show Act.put _ (some 70) _ = _
                   simp only [Act.put, List.setIfInBounds_toArray, List.set_cons_zero, List.set_cons_succ, i64_w, i32_w]
                   rfl
                 refine pure_ (i := 5) (N := some 65) (v := ?_) (a' := ?_) #[true, true, true, true, true, true, false, false, false, false, false] rfl rfl (any_of HT_.out (by kernel_rfl)) (fun _ _ _ h => h) (Or.inl ⟨by rfl, ?_⟩) ?_ ?_
                 rotate_left
                 · intro w'
                   go_simp
                   with_reducible rfl
                 rotate_left
                 · simp only [Act.put, List.setIfInBounds_toArray, List.set_cons_zero, List.set_cons_succ, i64_w, i32_w]
                   rfl
                 refine pure_ (i := 6) (N := some 71) (v := ?_) (a' := ?_) #[true, true, true, true, true, true, true, false, false, false, false] rfl rfl (any_of HT_.out (by kernel_rfl)) (fun _ _ _ h => h) (Or.inl ⟨by rfl, ?_⟩) ?_ ?_
                 rotate_left
                 · intro w'
                   go_simp
                   with_reducible rfl
                 rotate_left
                 · simp only [Act.put, List.setIfInBounds_toArray, List.set_cons_zero, List.set_cons_succ, i64_w, i32_w]
                   rfl
                 refine pure_ (i := 7) (N := some 72) (v := ?_) (a' := ?_) #[true, true, true, true, true, true, true, true, false, false, false] rfl rfl (any_of HT_.out (by kernel_rfl)) (fun _ _ _ h => h) (Or.inl ⟨by rfl, ?_⟩) ?_ ?_
                 rotate_left
                 · intro w'
                   go_simp
                   with_reducible rfl
                 rotate_left
                 · simp only [Act.put, List.setIfInBounds_toArray, List.set_cons_zero, List.set_cons_succ, i64_w, i32_w]
                   rfl
                 refine one_ (i := 8) (N := some 12) #[true, true, true, true, true, true, true, true, true, false, false] rfl rfl (one_of HT_.out (by kernel_rfl)) (by decide) (fun K hK => ?_)
                 refine box_step ?hg (N := 12) ?hd (cs := #[.int .i64 0, .int .i64 0, .int .i64 0]) (t := 26) ?hr ?_; (case hd => rfl); (case hg => rfl); (case hr => first | (go_simp; done) | (go_simp; rfl))
                 intro gb425 hg w114 hbox hb
                 have n0_ := Aside0.mk (Kd.R_below (by (with_reducible repeat (first | apply Kd.R_alloc | apply Kd.R_drewN | apply Kd.R_drew)); exact HO_4.out) hb)
                 have n1_ := Aside0.mk (blk_below (g := gb397) (o := .cells #[.int .i64 t391, .int .i64 t392, .int .i64 t393] 26 (0, 0)) (by (with_reducible repeat (first | apply bkN | apply bkD | apply bkA)); exact BK397.out) hb)
                 have n2_ := Aside0.mk (blk_below (g := gb402) (o := .cells #[.int .i64 t398, .int .i64 t399, .int .i64 t400] 26 (0, 0)) (by (with_reducible repeat (first | apply bkN | apply bkD | apply bkA)); exact BK402.out) hb)
                 have n3_ := Aside0.mk (blk_below (g := gb407) (o := .cells #[.int .i64 t403, .int .i64 t404, .int .i64 t405] 26 (0, 0)) (by (with_reducible repeat (first | apply bkN | apply bkD | apply bkA)); exact BK407.out) hb)
                 have n4_ := Aside0.mk (blk_below (g := gb416) (o := .cells #[.int .i64 t412, .int .i64 t413, .int .i64 t414] 26 (0, 0)) (by (with_reducible repeat (first | apply bkN | apply bkD | apply bkA)); exact BK416.out) hb)
                 have n5_ := Aside0.mk (Kd.C_below (by repeat (first | (with_reducible exact HR420.out) | (with_reducible refine Kd.C_alloc ?_ _) | (with_reducible refine Kd.C_drewN ?_ _) | (with_reducible refine Kd.C_drew ?_) | exact HR420.out)) hb)
                 have n6_ := Aside0.mk (below_step (by repeat (first | (with_reducible first | exact HB.out | apply bwA | apply bwN | apply bwD | refine bwS ?_ GE397.out | refine bwS ?_ GE402.out | refine bwS ?_ GE407.out | refine bwS ?_ GE416.out) | exact HB.out)) hb)
                 have n7_ := Aside0.mk (hbox)
                 have n8_ := Aside0.mk ((by rw [hg]; exact (below_size (by repeat (first | (with_reducible first | exact HB.out | apply bwA | apply bwN | apply bwD | refine bwS ?_ GE397.out | refine bwS ?_ GE402.out | refine bwS ?_ GE407.out | refine bwS ?_ GE416.out) | exact HB.out))) : w.heap.size ≤ gb425))
                 have n9_ := Aside0.mk ((by rw [hg]; exact (below_size (by repeat (first | (with_reducible first | exact HB.out | apply bwA | apply bwN | apply bwD | refine bwS ?_ GE397.out | refine bwS ?_ GE402.out | refine bwS ?_ GE407.out | refine bwS ?_ GE416.out) | exact HB.out))) : w.heap.size ≤ gb425))
                 have n10_ := Aside0.mk ((by rw [hg]; exact Nat.ne_of_lt (blk_lt (g := gb397) (o := .cells #[.int .i64 t391, .int .i64 t392, .int .i64 t393] 26 (0, 0)) (by (with_reducible repeat (first | apply bkN | apply bkD | apply bkA)); exact BK397.out)) : gb397 ≠ gb425))
                 have n11_ := Aside0.mk ((by rw [hg]; exact Nat.ne_of_gt (blk_lt (g := gb397) (o := .cells #[.int .i64 t391, .int .i64 t392, .int .i64 t393] 26 (0, 0)) (by (with_reducible repeat (first | apply bkN | apply bkD | apply bkA)); exact BK397.out)) : gb425 ≠ gb397))
                 have n12_ := Aside0.mk ((by rw [hg]; exact Nat.ne_of_lt (blk_lt (g := gb402) (o := .cells #[.int .i64 t398, .int .i64 t399, .int .i64 t400] 26 (0, 0)) (by (with_reducible repeat (first | apply bkN | apply bkD | apply bkA)); exact BK402.out)) : gb402 ≠ gb425))
                 have n13_ := Aside0.mk ((by rw [hg]; exact Nat.ne_of_gt (blk_lt (g := gb402) (o := .cells #[.int .i64 t398, .int .i64 t399, .int .i64 t400] 26 (0, 0)) (by (with_reducible repeat (first | apply bkN | apply bkD | apply bkA)); exact BK402.out)) : gb425 ≠ gb402))
                 have n14_ := Aside0.mk ((by rw [hg]; exact Nat.ne_of_lt (blk_lt (g := gb407) (o := .cells #[.int .i64 t403, .int .i64 t404, .int .i64 t405] 26 (0, 0)) (by (with_reducible repeat (first | apply bkN | apply bkD | apply bkA)); exact BK407.out)) : gb407 ≠ gb425))
                 have n15_ := Aside0.mk ((by rw [hg]; exact Nat.ne_of_gt (blk_lt (g := gb407) (o := .cells #[.int .i64 t403, .int .i64 t404, .int .i64 t405] 26 (0, 0)) (by (with_reducible repeat (first | apply bkN | apply bkD | apply bkA)); exact BK407.out)) : gb425 ≠ gb407))
                 have n16_ := Aside0.mk ((by rw [hg]; exact Nat.ne_of_lt (blk_lt (g := gb416) (o := .cells #[.int .i64 t412, .int .i64 t413, .int .i64 t414] 26 (0, 0)) (by (with_reducible repeat (first | apply bkN | apply bkD | apply bkA)); exact BK416.out)) : gb416 ≠ gb425))
                 have n17_ := Aside0.mk ((by rw [hg]; exact Nat.ne_of_gt (blk_lt (g := gb416) (o := .cells #[.int .i64 t412, .int .i64 t413, .int .i64 t414] 26 (0, 0)) (by (with_reducible repeat (first | apply bkN | apply bkD | apply bkA)); exact BK416.out)) : gb425 ≠ gb416))
                 clear HO_4
                 clear BK397
                 clear BK402
                 clear BK407
                 clear BK416
                 clear HR420
                 clear HB
                 have HO_4 := n0_
                 have BK397 := n1_
                 have BK402 := n2_
                 have BK407 := n3_
                 have BK416 := n4_
                 have HR420 := n5_
                 have HB := n6_
                 have BK425 := n7_
                 have GW425 := n8_
                 have GE425 := n9_
                 have NB397_425 := n10_
                 have NB425_397 := n11_
                 have NB402_425 := n12_
                 have NB425_402 := n13_
                 have NB407_425 := n14_
                 have NB425_407 := n15_
                 have NB416_425 := n16_
                 have NB425_416 := n17_
                 clear n0_ n1_ n2_ n3_ n4_ n5_ n6_ n7_ n8_ n9_ n10_ n11_ n12_ n13_ n14_ n15_ n16_ n17_
                 clear hb hbox hg
                 refine hK.out _ _ ⟨(blk_cell BK416.out 0).trans rfl, (blk_cell BK416.out 1).trans rfl, (blk_cell BK416.out 2).trans rfl⟩ (fun hHeld => ?_)
                 clear hK K
                 refine norm_ (a' := ?_) ?_ ?_
                 rotate_left
                 · show Act.put _ (some 12) _ = _
                   simp only [Act.put, List.setIfInBounds_toArray, List.set_cons_zero, List.set_cons_succ, i64_w, i32_w]
                   rfl
                 exact norm_ (by simp only [putAll, Act.put, List.setIfInBounds_toArray, List.set_cons_zero, List.set_cons_succ]) (hCont (gb425) _ ⟨hHeld, (by (with_reducible repeat (first | apply Kd.R_alloc | apply Kd.R_drewN | apply Kd.R_drew)); exact HO_4.out), (by (with_reducible repeat (first | apply bkN | apply bkD | apply bkA)); exact BK397.out), (by (with_reducible repeat (first | apply bkN | apply bkD | apply bkA)); exact BK402.out), (by (with_reducible repeat (first | apply bkN | apply bkD | apply bkA)); exact BK407.out), (by (with_reducible repeat (first | apply bkN | apply bkD | apply bkA)); exact BK416.out), (by (with_reducible repeat (first | apply bkN | apply bkD | apply bkA)); exact BK425.out), GW425.out, GE425.out, NB397_425.out, NB425_397.out, NB402_425.out, NB425_402.out, NB407_425.out, NB425_407.out, NB416_425.out, NB425_416.out, (by repeat (first | (with_reducible first | exact HB.out | apply bwA | apply bwN | apply bwD | refine bwS ?_ GE397.out | refine bwS ?_ GE402.out | refine bwS ?_ GE407.out | refine bwS ?_ GE416.out | refine bwS ?_ GE425.out) | exact HB.out))⟩)
               · skip
                 refine box_step ?hg (N := 12) ?hd (cs := #[.int .i64 0, .int .i64 0, .int .i64 0]) (t := 26) ?hr ?_; (case hd => rfl); (case hg => rfl); (case hr => first | (go_simp; done) | (go_simp; rfl))
                 intro gb425 hg w113 hbox hb
                 have n0_ := Aside0.mk (Kd.R_below (by (with_reducible repeat (first | apply Kd.R_alloc | apply Kd.R_drewN | apply Kd.R_drew)); exact HO_4.out) hb)
                 have n1_ := Aside0.mk (blk_below (g := gb397) (o := .cells #[.int .i64 t391, .int .i64 t392, .int .i64 t393] 26 (0, 0)) (by (with_reducible repeat (first | apply bkN | apply bkD | apply bkA)); exact BK397.out) hb)
                 have n2_ := Aside0.mk (blk_below (g := gb402) (o := .cells #[.int .i64 t398, .int .i64 t399, .int .i64 t400] 26 (0, 0)) (by (with_reducible repeat (first | apply bkN | apply bkD | apply bkA)); exact BK402.out) hb)
                 have n3_ := Aside0.mk (blk_below (g := gb407) (o := .cells #[.int .i64 t403, .int .i64 t404, .int .i64 t405] 26 (0, 0)) (by (with_reducible repeat (first | apply bkN | apply bkD | apply bkA)); exact BK407.out) hb)
                 have n4_ := Aside0.mk (blk_below (g := gb416) (o := .cells #[.int .i64 t412, .int .i64 t413, .int .i64 t414] 26 (0, 0)) (by (with_reducible repeat (first | apply bkN | apply bkD | apply bkA)); exact BK416.out) hb)
                 have n5_ := Aside0.mk (Kd.C_below (by repeat (first | (with_reducible exact HR420.out) | (with_reducible refine Kd.C_alloc ?_ _) | (with_reducible refine Kd.C_drewN ?_ _) | (with_reducible refine Kd.C_drew ?_) | exact HR420.out)) hb)
                 have n6_ := Aside0.mk (below_step (by repeat (first | (with_reducible first | exact HB.out | apply bwA | apply bwN | apply bwD | refine bwS ?_ GE397.out | refine bwS ?_ GE402.out | refine bwS ?_ GE407.out | refine bwS ?_ GE416.out) | exact HB.out)) hb)
                 have n7_ := Aside0.mk (hbox)
                 have n8_ := Aside0.mk ((by rw [hg]; exact (below_size (by repeat (first | (with_reducible first | exact HB.out | apply bwA | apply bwN | apply bwD | refine bwS ?_ GE397.out | refine bwS ?_ GE402.out | refine bwS ?_ GE407.out | refine bwS ?_ GE416.out) | exact HB.out))) : w.heap.size ≤ gb425))
                 have n9_ := Aside0.mk ((by rw [hg]; exact (below_size (by repeat (first | (with_reducible first | exact HB.out | apply bwA | apply bwN | apply bwD | refine bwS ?_ GE397.out | refine bwS ?_ GE402.out | refine bwS ?_ GE407.out | refine bwS ?_ GE416.out) | exact HB.out))) : w.heap.size ≤ gb425))
                 have n10_ := Aside0.mk ((by rw [hg]; exact Nat.ne_of_lt (blk_lt (g := gb397) (o := .cells #[.int .i64 t391, .int .i64 t392, .int .i64 t393] 26 (0, 0)) (by (with_reducible repeat (first | apply bkN | apply bkD | apply bkA)); exact BK397.out)) : gb397 ≠ gb425))
                 have n11_ := Aside0.mk ((by rw [hg]; exact Nat.ne_of_gt (blk_lt (g := gb397) (o := .cells #[.int .i64 t391, .int .i64 t392, .int .i64 t393] 26 (0, 0)) (by (with_reducible repeat (first | apply bkN | apply bkD | apply bkA)); exact BK397.out)) : gb425 ≠ gb397))
                 have n12_ := Aside0.mk ((by rw [hg]; exact Nat.ne_of_lt (blk_lt (g := gb402) (o := .cells #[.int .i64 t398, .int .i64 t399, .int .i64 t400] 26 (0, 0)) (by (with_reducible repeat (first | apply bkN | apply bkD | apply bkA)); exact BK402.out)) : gb402 ≠ gb425))
                 have n13_ := Aside0.mk ((by rw [hg]; exact Nat.ne_of_gt (blk_lt (g := gb402) (o := .cells #[.int .i64 t398, .int .i64 t399, .int .i64 t400] 26 (0, 0)) (by (with_reducible repeat (first | apply bkN | apply bkD | apply bkA)); exact BK402.out)) : gb425 ≠ gb402))
                 have n14_ := Aside0.mk ((by rw [hg]; exact Nat.ne_of_lt (blk_lt (g := gb407) (o := .cells #[.int .i64 t403, .int .i64 t404, .int .i64 t405] 26 (0, 0)) (by (with_reducible repeat (first | apply bkN | apply bkD | apply bkA)); exact BK407.out)) : gb407 ≠ gb425))
                 have n15_ := Aside0.mk ((by rw [hg]; exact Nat.ne_of_gt (blk_lt (g := gb407) (o := .cells #[.int .i64 t403, .int .i64 t404, .int .i64 t405] 26 (0, 0)) (by (with_reducible repeat (first | apply bkN | apply bkD | apply bkA)); exact BK407.out)) : gb425 ≠ gb407))
                 have n16_ := Aside0.mk ((by rw [hg]; exact Nat.ne_of_lt (blk_lt (g := gb416) (o := .cells #[.int .i64 t412, .int .i64 t413, .int .i64 t414] 26 (0, 0)) (by (with_reducible repeat (first | apply bkN | apply bkD | apply bkA)); exact BK416.out)) : gb416 ≠ gb425))
                 have n17_ := Aside0.mk ((by rw [hg]; exact Nat.ne_of_gt (blk_lt (g := gb416) (o := .cells #[.int .i64 t412, .int .i64 t413, .int .i64 t414] 26 (0, 0)) (by (with_reducible repeat (first | apply bkN | apply bkD | apply bkA)); exact BK416.out)) : gb425 ≠ gb416))
                 clear HO_4
                 clear BK397
                 clear BK402
                 clear BK407
                 clear BK416
                 clear HR420
                 clear HB
                 have HO_4 := n0_
                 have BK397 := n1_
                 have BK402 := n2_
                 have BK407 := n3_
                 have BK416 := n4_
                 have HR420 := n5_
                 have HB := n6_
                 have BK425 := n7_
                 have GW425 := n8_
                 have GE425 := n9_
                 have NB397_425 := n10_
                 have NB425_397 := n11_
                 have NB402_425 := n12_
                 have NB425_402 := n13_
                 have NB407_425 := n14_
                 have NB425_407 := n15_
                 have NB416_425 := n16_
                 have NB425_416 := n17_
                 clear n0_ n1_ n2_ n3_ n4_ n5_ n6_ n7_ n8_ n9_ n10_ n11_ n12_ n13_ n14_ n15_ n16_ n17_
                 clear hb hbox hg
                 refine hK.out _ _ ⟨(blk_cell BK416.out 0).trans rfl, (blk_cell BK416.out 1).trans rfl, (blk_cell BK416.out 2).trans rfl⟩ (fun hHeld => ?_)
                 clear hK K
                 refine norm_ (a' := ?_) ?_ ?_
                 rotate_left
                 · show Act.put _ (some 12) _ = _
                   simp only [Act.put, List.setIfInBounds_toArray, List.set_cons_zero, List.set_cons_succ, i64_w, i32_w]
                   rfl
                 refine one_ (i := 4) (N := some 70) #[true, true, true, true, true, false, false, false, true, false, false] rfl rfl (one_of HT_.out (by kernel_rfl)) (by decide) (fun K hK => ?_)
                 refine goes_ Try.func11 (by kernel_rfl) rfl #[.agg #[.int .i64 t412, .int .i64 t413, .int .i64 t414], .slice A112 y417.length c112] (by rfl) rfl rfl (by (try simp only [List.map_toArray, List.map_cons, List.map_nil]); first | done | rfl | (simp only [List.length_drop, List.length_take]; rfl)) ?_
                 with_reducible refine (impl_RunClock.calls kj5 t412 t413 t414 _ _ y417 t421 t422 t423 t424 _ ?side1 ?side2 A56.out).mono ?_
                 (case side1 => repeat (first | exact (by repeat (first | (with_reducible exact HR420.out) | (with_reducible refine Kd.C_alloc ?_ _) | (with_reducible refine Kd.C_drewN ?_ _) | (with_reducible refine Kd.C_drew ?_) | exact HR420.out)) | (with_reducible refine Kd.C_alloc ?_ _) | (with_reducible refine Kd.C_drewN ?_ _) | (with_reducible refine Kd.C_drew ?_)))
                 (case side2 => exact HC420.out)
                 rintro e w114 ⟨rfl, hb⟩
                 refine ⟨_, rfl, ?_⟩
                 have n0_ := Aside0.mk (Kd.R_below (by (with_reducible repeat (first | apply Kd.R_alloc | apply Kd.R_drewN | apply Kd.R_drew)); exact HO_4.out) hb)
                 have n1_ := Aside0.mk (blk_below (g := gb397) (o := .cells #[.int .i64 t391, .int .i64 t392, .int .i64 t393] 26 (0, 0)) (by (with_reducible repeat (first | apply bkN | apply bkD | apply bkA)); exact BK397.out) hb)
                 have n2_ := Aside0.mk (blk_below (g := gb402) (o := .cells #[.int .i64 t398, .int .i64 t399, .int .i64 t400] 26 (0, 0)) (by (with_reducible repeat (first | apply bkN | apply bkD | apply bkA)); exact BK402.out) hb)
                 have n3_ := Aside0.mk (blk_below (g := gb407) (o := .cells #[.int .i64 t403, .int .i64 t404, .int .i64 t405] 26 (0, 0)) (by (with_reducible repeat (first | apply bkN | apply bkD | apply bkA)); exact BK407.out) hb)
                 have n4_ := Aside0.mk (blk_below (g := gb416) (o := .cells #[.int .i64 t412, .int .i64 t413, .int .i64 t414] 26 (0, 0)) (by (with_reducible repeat (first | apply bkN | apply bkD | apply bkA)); exact BK416.out) hb)
                 have n5_ := Aside0.mk (Kd.C_below (by repeat (first | (with_reducible exact HR420.out) | (with_reducible refine Kd.C_alloc ?_ _) | (with_reducible refine Kd.C_drewN ?_ _) | (with_reducible refine Kd.C_drew ?_) | exact HR420.out)) hb)
                 have n6_ := Aside0.mk (blk_below (g := gb425) (o := .cells #[.int .i64 0, .int .i64 0, .int .i64 0] 26 (0, 0)) (by (with_reducible repeat (first | apply bkN | apply bkD | apply bkA)); exact BK425.out) hb)
                 have n7_ := Aside0.mk (below_step (by repeat (first | (with_reducible first | exact HB.out | apply bwA | apply bwN | apply bwD | refine bwS ?_ GE397.out | refine bwS ?_ GE402.out | refine bwS ?_ GE407.out | refine bwS ?_ GE416.out | refine bwS ?_ GE425.out) | exact HB.out)) hb)
                 clear HO_4
                 clear BK397
                 clear BK402
                 clear BK407
                 clear BK416
                 clear HR420
                 clear BK425
                 clear HB
                 have HO_4 := n0_
                 have BK397 := n1_
                 have BK402 := n2_
                 have BK407 := n3_
                 have BK416 := n4_
                 have HR420 := n5_
                 have BK425 := n6_
                 have HB := n7_
                 clear n0_ n1_ n2_ n3_ n4_ n5_ n6_ n7_
                 (try clear hb)
                 (try clear hb2)
                 (try clear hk)
                 (try clear hi)
                 refine hK.out _ _ ⟨(blk_cell BK416.out 0).trans rfl, (blk_cell BK416.out 1).trans rfl, (blk_cell BK416.out 2).trans rfl⟩ (fun hHeld => ?_)
                 clear hK K
                 refine norm_ (a' := ?_) ?_ ?_
                 rotate_left
                 · show Act.put _ (some 70) _ = _
                   simp only [Act.put, List.setIfInBounds_toArray, List.set_cons_zero, List.set_cons_succ, i64_w, i32_w]
                   rfl
                 refine pure_ (i := 5) (N := some 65) (v := ?_) (a' := ?_) #[true, true, true, true, true, true, false, false, true, false, false] rfl rfl (any_of HT_.out (by kernel_rfl)) (fun _ _ _ h => h) (Or.inl ⟨by rfl, ?_⟩) ?_ ?_
                 rotate_left
                 · intro w'
                   go_simp
                   with_reducible rfl
                 rotate_left
                 · simp only [Act.put, List.setIfInBounds_toArray, List.set_cons_zero, List.set_cons_succ, i64_w, i32_w]
                   rfl
                 refine pure_ (i := 6) (N := some 71) (v := ?_) (a' := ?_) #[true, true, true, true, true, true, true, false, true, false, false] rfl rfl (any_of HT_.out (by kernel_rfl)) (fun _ _ _ h => h) (Or.inl ⟨by rfl, ?_⟩) ?_ ?_
                 rotate_left
                 · intro w'
                   go_simp
                   with_reducible rfl
                 rotate_left
                 · simp only [Act.put, List.setIfInBounds_toArray, List.set_cons_zero, List.set_cons_succ, i64_w, i32_w]
                   rfl
                 refine pure_ (i := 7) (N := some 72) (v := ?_) (a' := ?_) #[true, true, true, true, true, true, true, true, true, false, false] rfl rfl (any_of HT_.out (by kernel_rfl)) (fun _ _ _ h => h) (Or.inl ⟨by rfl, ?_⟩) ?_ ?_
                 rotate_left
                 · intro w'
                   go_simp
                   with_reducible rfl
                 rotate_left
                 · simp only [Act.put, List.setIfInBounds_toArray, List.set_cons_zero, List.set_cons_succ, i64_w, i32_w]
                   rfl
                 exact norm_ (by simp only [putAll, Act.put, List.setIfInBounds_toArray, List.set_cons_zero, List.set_cons_succ]) (hCont (gb425) _ ⟨hHeld, (by (with_reducible repeat (first | apply Kd.R_alloc | apply Kd.R_drewN | apply Kd.R_drew)); exact HO_4.out), (by (with_reducible repeat (first | apply bkN | apply bkD | apply bkA)); exact BK397.out), (by (with_reducible repeat (first | apply bkN | apply bkD | apply bkA)); exact BK402.out), (by (with_reducible repeat (first | apply bkN | apply bkD | apply bkA)); exact BK407.out), (by (with_reducible repeat (first | apply bkN | apply bkD | apply bkA)); exact BK416.out), (by (with_reducible repeat (first | apply bkN | apply bkD | apply bkA)); exact BK425.out), GW425.out, GE425.out, NB397_425.out, NB425_397.out, NB402_425.out, NB425_402.out, NB407_425.out, NB425_407.out, NB416_425.out, NB425_416.out, (by repeat (first | (with_reducible first | exact HB.out | apply bwA | apply bwN | apply bwD | refine bwS ?_ GE397.out | refine bwS ?_ GE402.out | refine bwS ?_ GE407.out | refine bwS ?_ GE416.out | refine bwS ?_ GE425.out) | exact HB.out))⟩)
             rintro gb425 w115 ⟨hS_, h0_, h1_, h2_, h3_, h4_, h5_, h6_, h7_, h8_, h9_, h10_, h11_, h12_, h13_, h14_, h15_, h16_⟩
             have n0_ : Aside0 (Kd.R k40 40 w115 w.heap.size (fun _ => True) (.slice Ao10 t394.length co10) t394) := ⟨h0_⟩
             have n1_ : Aside0 (w115.heap[gb397]? = some (.cells #[.int .i64 t391, .int .i64 t392, .int .i64 t393] 26 (0, 0))) := ⟨h1_⟩
             have n2_ : Aside0 (w115.heap[gb402]? = some (.cells #[.int .i64 t398, .int .i64 t399, .int .i64 t400] 26 (0, 0))) := ⟨h2_⟩
             have n3_ : Aside0 (w115.heap[gb407]? = some (.cells #[.int .i64 t403, .int .i64 t404, .int .i64 t405] 26 (0, 0))) := ⟨h3_⟩
             have n4_ : Aside0 (w115.heap[gb416]? = some (.cells #[.int .i64 t412, .int .i64 t413, .int .i64 t414] 26 (0, 0))) := ⟨h4_⟩
             have n5_ : Aside0 (w115.heap[gb425]? = some (.cells #[.int .i64 0, .int .i64 0, .int .i64 0] 26 (0, 0))) := ⟨h5_⟩
             have n6_ : Aside0 (w.heap.size ≤ gb425) := ⟨h6_⟩
             have n7_ : Aside0 (w.heap.size ≤ gb425) := ⟨h7_⟩
             have n8_ : Aside0 (gb397 ≠ gb425) := ⟨h8_⟩
             have n9_ : Aside0 (gb425 ≠ gb397) := ⟨h9_⟩
             have n10_ : Aside0 (gb402 ≠ gb425) := ⟨h10_⟩
             have n11_ : Aside0 (gb425 ≠ gb402) := ⟨h11_⟩
             have n12_ : Aside0 (gb407 ≠ gb425) := ⟨h12_⟩
             have n13_ : Aside0 (gb425 ≠ gb407) := ⟨h13_⟩
             have n14_ : Aside0 (gb416 ≠ gb425) := ⟨h14_⟩
             have n15_ : Aside0 (gb425 ≠ gb416) := ⟨h15_⟩
             have n16_ : Aside0 (Below w.heap.size w w115) := ⟨h16_⟩
             clear HO_4
             clear BK397
             clear BK402
             clear BK407
             clear BK416
             clear HB
             clear h0_ h1_ h2_ h3_ h4_ h5_ h6_ h7_ h8_ h9_ h10_ h11_ h12_ h13_ h14_ h15_ h16_
             have HO_4 := n0_
             have BK397 := n1_
             have BK402 := n2_
             have BK407 := n3_
             have BK416 := n4_
             have BK425 := n5_
             have GW425 := n6_
             have GE425 := n7_
             have NB397_425 := n8_
             have NB425_397 := n9_
             have NB402_425 := n10_
             have NB425_402 := n11_
             have NB407_425 := n12_
             have NB425_407 := n13_
             have NB416_425 := n14_
             have NB425_416 := n15_
             have HB := n16_
             clear n0_ n1_ n2_ n3_ n4_ n5_ n6_ n7_ n8_ n9_ n10_ n11_ n12_ n13_ n14_ n15_ n16_
             have hHeld : w115.cell? ⟨gb416, 0, none⟩ = some (.int .i64 t412) ∧ w115.cell? ⟨gb416, 1, none⟩ = some (.int .i64 t413) ∧ w115.cell? ⟨gb416, 2, none⟩ = some (.int .i64 t414) := hS_
             refine norm_ (a' := ?_) ?_ ?_
             rotate_left
             · simp only [putAll, Act.put, List.setIfInBounds_toArray, List.set_cons_zero, List.set_cons_succ]
               rfl
             refine one_ (i := 9) (N := none) #[true, true, true, true, true, true, true, true, true, true, false] rfl rfl (one_of HT_.out (by kernel_rfl)) (by decide) (fun K hK => ?_)
             have hs116 : w115.cell? ⟨gb425, 0, none⟩ = some (.int .i64 0) := (blk_cell BK425.out 0).trans rfl
             have hfs116 := blk_frozen BK425.out 0
             have hns116_0 := NB397_425.out
             have hns116_1 := NB402_425.out
             have hns116_2 := NB407_425.out
             have hns116_3 := NB416_425.out
             have hms116_0 := NB425_397.out
             have hms116_1 := NB425_402.out
             have hms116_2 := NB425_407.out
             have hms116_3 := NB425_416.out
             have hs117 : w115.cell? ⟨gb425, 1, none⟩ = some (.int .i64 0) := (blk_cell BK425.out 1).trans rfl
             have hfs117 := blk_frozen BK425.out 1
             have hns117_0 := NB397_425.out
             have hns117_1 := NB402_425.out
             have hns117_2 := NB407_425.out
             have hns117_3 := NB416_425.out
             have hms117_0 := NB425_397.out
             have hms117_1 := NB425_402.out
             have hms117_2 := NB425_407.out
             have hms117_3 := NB425_416.out
             have hs118 : w115.cell? ⟨gb425, 2, none⟩ = some (.int .i64 0) := (blk_cell BK425.out 2).trans rfl
             have hfs118 := blk_frozen BK425.out 2
             have hns118_0 := NB397_425.out
             have hns118_1 := NB402_425.out
             have hns118_2 := NB407_425.out
             have hns118_3 := NB416_425.out
             have hms118_0 := NB425_397.out
             have hms118_1 := NB425_402.out
             have hms118_2 := NB425_407.out
             have hms118_3 := NB425_416.out
             refine skip_ (w1 := ?_) (by rfl) rfl ?_ ?_
             rotate_left
             · go_simp
               rfl
             refine hK.out _ _ ⟨((cell_far (p := ⟨gb425, _, none⟩) NB416_425.out _).trans (((cell_far (p := ⟨gb425, _, none⟩) NB416_425.out _).trans (((cell_far (p := ⟨gb425, _, none⟩) NB416_425.out _).trans (hHeld.1)))))), ((cell_far (p := ⟨gb425, _, none⟩) NB416_425.out _).trans (((cell_far (p := ⟨gb425, _, none⟩) NB416_425.out _).trans (((cell_far (p := ⟨gb425, _, none⟩) NB416_425.out _).trans (hHeld.2.1)))))), ((cell_far (p := ⟨gb425, _, none⟩) NB416_425.out _).trans (((cell_far (p := ⟨gb425, _, none⟩) NB416_425.out _).trans (((cell_far (p := ⟨gb425, _, none⟩) NB416_425.out _).trans (hHeld.2.2))))))⟩ (fun hHeld => ?_)
             clear hK K
             refine pure_ (i := 10) (N := some 13) (v := ?_) (a' := ?_) #[true, true, true, true, true, true, true, true, true, true, true] rfl rfl (any_of HT_.out (by kernel_rfl)) (fun _ _ _ h => h) (Or.inl ⟨by rfl, ?_⟩) ?_ ?_
             rotate_left
             · intro w'
               go_simp
               with_reducible rfl
             rotate_left
             · simp only [Act.put, List.setIfInBounds_toArray, List.set_cons_zero, List.set_cons_succ, i64_w, i32_w]
               rfl
             refine done_ (done_of HT_.out (by kernel_rfl)) ?_
             try go_wp2
             go_ret
             exact ⟨by first | rfl | (simp [errW_none, errW_some] <;> rfl) | (simp only [← hji50]; first | rfl | (simp [errW_none, errW_some] <;> rfl)) | (simp [*, errW_none, errW_some] <;> rfl), by repeat (first | (with_reducible first | exact HB.out | apply bwA | apply bwN | apply bwD | refine bwS ?_ GE397.out | refine bwS ?_ GE402.out | refine bwS ?_ GE407.out | refine bwS ?_ GE416.out | refine bwS ?_ GE425.out) | exact HB.out)⟩
         · rw [if_neg c52] at H
           exact absurd H (by simp)
       · rw [if_neg c51] at H
         exact absurd H (by simp)

/-- THE ONE PURE STATEMENT of laws_FnRunClockParts: yours. -/
def laws_FnRunClockParts.Pure : Prop := ∀ (l0 : List Int), l0.length ≤ maxLen → l0.length * 1 ≤ 140737488351232 → (∀ x ∈ l0, (Lit.int .u8 x).wf = true) → ∃ k, laws_FnRunClockParts.f k l0 = some true
theorem laws_FnRunClockParts.walk (P : laws_FnRunClockParts.Pure) (a0 : Option Addr) (len0 cap0 : Nat) (z0 : List Int) (w : World) (w0 : (a0 = none ∧ len0 = 0 ∧ cap0 = 0 ∧ z0 = []) ∨ ∃ x, a0 = some x ∧ len0 ≤ cap0 ∧ cap0 ≤ maxLen ∧ z0.length = cap0 ∧ (∀ i, i < z0.length → w.cell? (x.add i) = some (.int .u8 (z0.getD i 0))) ∧ ∀ n ∈ z0, (Lit.int .u8 n).wf = true) (y0 : len0 * 1 ≤ 140737488351232) :
 Calls Try.prog 6 #[.slice a0 len0 cap0] w fun e w' => e = .returned (.bool true) ∧ Below w.heap.size w w' := by
 obtain ⟨l0, rfl, hr0, hm0, hw0, hc0⟩ := ReadsInt.ofRowC w0
 obtain ⟨k, h⟩ := P l0 hm0 y0 hw0
 refine (laws_FnRunClockParts.calls k _ _ l0 true w (Kd.C_of_reads (d := (0 : Int)) (h1 := fun _ => rfl) hr0) hc0 h).mono ?_
 rintro e w' ⟨rfl, hd⟩
 exact ⟨rfl, hd⟩

end Go.Proofs.Ytmebkfcoadbakaa.PAll
