/- Contracts of the Go functions that this seat's laws reach: each call returns what the plain function beside it tells, and leaves what was there; no condition but that result. Written by a program of this session (pmore.py, over the kit's print). -/
import Derived.Test.YtlgphpjialbaoaaPAllx0
import Derived.Test.YtlgphpjialbaoaaPAllx1
import Derived.Test.YtlgphpjialbaoaaPAllx2
import Derived.Test.YtlgphpjialbaoaaPAllx3
import Derived.Test.YtlgphpjialbaoaaPAllx4
namespace Go.Proofs.Ytlgphpjialbaoaa.PAll
open Go.RowKit Go.Proofs.YtlgphpjialbaoaaW.PrintWords Go.Proofs.YtlgphpjialbaoaaW.PrintLast Go.Proofs.YtlgphpjialbaoaaW.PrintMore
attribute [local go_sem] max2_int min2_int max_two min_two max_three min_three max_four min_four   -- for this text's walks alone
set_option linter.unusedVariables false
set_option linter.unusedSimpArgs false

attribute [local go_sem high] eqA26
/-! ### laws_FnAgreedSpanAdd: function 3 -/
def laws_FnAgreedSpanAdd.j0 : Nat → List (S26) → Bool → Bool → Bool → Int → Int → Int → Int → Option (Bool)
 | 0, _, _, _, _, _, _, _, _ => none
 | k + 1, x3, x5, x7, x41, x239000, x239001, x243000, x243001 => if x41 = true then (if (x239000 == x243000 && (x239001 == x243001)) = true then (some (x5 == x7)) else (some false)) else ((some (([] : List (S26)) : List (S26))).bind fun y243 => (if y243.length + x3.length < 8796093022208 then ((some (y243 ++ x3 : List (S26))).bind fun y246 => ((some (([(⟨x239000, x239001⟩ : S26)] : List (S26)) : List (S26))).bind fun y249 => (if y246.length + y249.length < 8796093022208 then ((impl_AgreedSpan.f k (y246 ++ y249)).bind fun bt255 => (if bt255.2.2 = true then (some (bt255.1 == x239000 && (bt255.2.1 == x239001))) else (none))) else (none)))) else (none)))
def laws_FnAgreedSpanAdd.f (k : Nat) (l0 : List Int) : Option (Bool) := if (l0.length : Int) > 1048576 then (some true) else ((spec_DrawAgreedSpan.f k l0).bind fun t232 => ((impl_AgreedSpan.f k t232).bind fun bt235 => ((spec_AgreedSpan.f k t232).bind fun bt239 => (if (!(bt235.1 == bt239.1) || (!(bt235.2.1 == bt239.2.1))) = true then (none) else (if (bt235.2.2 != bt239.2.2) = true then (none) else (if bt235.2.2 = true then (laws_FnAgreedSpanAdd.j0 k t232 bt235.2.2 bt239.2.2 ((t232.length : Int) == 7) bt235.1 bt235.2.1 bt239.1 bt239.2.1) else (laws_FnAgreedSpanAdd.j0 k t232 bt235.2.2 bt239.2.2 true bt235.1 bt235.2.1 bt239.1 bt239.2.1)))))))
theorem laws_FnAgreedSpanAdd.mono_l : ∀ k, (∀ y0 y1 y2 y3 y4 y5 y6 y7, LeO (laws_FnAgreedSpanAdd.j0 k y0 y1 y2 y3 y4 y5 y6 y7) (laws_FnAgreedSpanAdd.j0 (k + 1) y0 y1 y2 y3 y4 y5 y6 y7))
 | 0 => fun _ _ _ _ _ _ _ _ r h => by simp [laws_FnAgreedSpanAdd.j0] at h
 | k + 1 => by
  have ih0 := laws_FnAgreedSpanAdd.mono_l k
  · intro y0 y1 y2 y3 y4 y5 y6 y7
    unfold laws_FnAgreedSpanAdd.j0
    repeat' first
    | (with_reducible exact ih0 _ _ _ _ _ _ _ _)
    | (with_reducible exact impl_AgreedSpan.mono _ _)
    | (with_reducible exact spec_AgreedSpan.mono _ _)
    | (with_reducible exact spec_DrawAgreedSpan.mono _ _)
    | (with_reducible exact LeO.refl _)
    | (with_reducible exact LeO.none _)
    | (with_reducible refine LeO.ite ?_ ?_)
    | (with_reducible refine LeO.bind ?_ (fun _ => ?_))
    | exact ih0 _ _ _ _ _ _ _ _
    | exact impl_AgreedSpan.mono _ _
    | exact spec_AgreedSpan.mono _ _
    | exact spec_DrawAgreedSpan.mono _ _
    | exact LeO.none _
    | refine LeO.ite ?_ ?_
    | refine LeO.bind ?_ (fun _ => ?_)
theorem laws_FnAgreedSpanAdd.mono : ∀ a0 k, LeO (laws_FnAgreedSpanAdd.f k a0) (laws_FnAgreedSpanAdd.f (k + 1) a0) := by
 intro a0 k
 have ih0 := laws_FnAgreedSpanAdd.mono_l k
 unfold laws_FnAgreedSpanAdd.f
 repeat' first
  | (with_reducible exact ih0 _ _ _ _ _ _ _ _)
  | (with_reducible exact impl_AgreedSpan.mono _ _)
  | (with_reducible exact spec_AgreedSpan.mono _ _)
  | (with_reducible exact spec_DrawAgreedSpan.mono _ _)
  | (with_reducible exact LeO.refl _)
  | (with_reducible exact LeO.none _)
  | (with_reducible refine LeO.ite ?_ ?_)
  | (with_reducible refine LeO.bind ?_ (fun _ => ?_))
  | exact ih0 _ _ _ _ _ _ _ _
  | exact impl_AgreedSpan.mono _ _
  | exact spec_AgreedSpan.mono _ _
  | exact spec_DrawAgreedSpan.mono _ _
  | exact LeO.none _
  | refine LeO.ite ?_ ?_
  | refine LeO.bind ?_ (fun _ => ?_)
def laws_FnAgreedSpanAdd.T8 : Bool × List (List Nat × List Nat) := (true, [([], []), ([], []), ([0, 1], [0, 1]), ([], []), ([3], [3]), ([2, 4, 2], [2, 4]), ([5, 5], [5]), ([6], [6]), ([7], [7]), ([7], [7]), ([], []), ([10, 8, 6, 0, 1, 2, 3, 4, 5, 6, 7, 8, 10], [8, 10]), ([9, 11, 0, 1, 2, 3, 4, 5, 6, 7, 8, 9, 10, 11], [9])])
def laws_FnAgreedSpanAdd.B8 : List Nat := [0, 0, 3, 0, 8, 31, 63, 127, 255, 255, 0, 1535, 4095]
theorem laws_FnAgreedSpanAdd.tab8 : rtab .any (opsOf Try.f3 8) = laws_FnAgreedSpanAdd.T8 := by kernel_rfl
theorem laws_FnAgreedSpanAdd.bits8 : waitsOk laws_FnAgreedSpanAdd.T8.2 laws_FnAgreedSpanAdd.B8 = true := by kernel_rfl
set_option maxHeartbeats 8000000 in
set_option maxRecDepth 100000 in
theorem laws_FnAgreedSpanAdd.calls (k : Nat) (A0 : Option Addr) (c0 : Nat) (l0 : List Int) (r : Bool) (w : World) (hr0 : Kd.C (Kd.int .u8) w A0 l0.length l0) (hc0 : l0.length ≤ c0) (h : laws_FnAgreedSpanAdd.f k l0 = some r) :
 Calls Try.prog 3 #[.slice A0 l0.length c0] w fun e w' => e = .returned (.bool r) ∧ Below w.heap.size w w' := by
 have hu26 := Try.underlying26
 have HR0 := Aside0.mk hr0
 have HC0 := Aside0.mk hc0
 clear hr0 hc0
 have HB := Aside0.mk (Below.refl w.heap.size w)
 have H : (if (l0.length : Int) > 1048576 then (some true) else ((spec_DrawAgreedSpan.f k l0).bind fun t232 => ((impl_AgreedSpan.f k t232).bind fun bt235 => ((spec_AgreedSpan.f k t232).bind fun bt239 => (if (!(bt235.1 == bt239.1) || (!(bt235.2.1 == bt239.2.1))) = true then (none) else (if (bt235.2.2 != bt239.2.2) = true then (none) else (if bt235.2.2 = true then (laws_FnAgreedSpanAdd.j0 k t232 bt235.2.2 bt239.2.2 ((t232.length : Int) == 7) bt235.1 bt235.2.1 bt239.1 bt239.2.1) else (laws_FnAgreedSpanAdd.j0 k t232 bt235.2.2 bt239.2.2 true bt235.1 bt235.2.1 bt239.1 bt239.2.1)))))))) = some r := h
 clear h
 by_cases c2 : (l0.length : Int) > 1048576
 · rw [if_pos c2] at H
   have c2b0 : decide (1048576 < (l0.length : Int)) = true := decide_eq_true c2
   have c2b1 : decide (1048576 < l0.length) = true := decide_eq_true (by omega)
   clear c2
   obtain rfl := Option.some.inj H
   go_enter Try.func3, Try.ntmps3
   go_wp2
   go_ret
   exact ⟨by first | rfl | (simp [errW_none, errW_some] <;> rfl) | (simp [*, errW_none, errW_some] <;> rfl), by repeat (first | (with_reducible first | exact HB.out | apply below_alloc | apply pw_below_drewN | apply below_drew1) | exact HB.out)⟩
 · rw [if_neg c2] at H
   have c2b0 : decide (1048576 < (l0.length : Int)) = false := decide_eq_false c2
   have c2b1 : decide (1048576 < l0.length) = false := decide_eq_false (by omega)
   clear c2
   replace H := Option.bind_eq_some_iff.mp H
   obtain ⟨t232, A30, H⟩ := H
   replace H : ((impl_AgreedSpan.f k t232).bind fun bt235 => ((spec_AgreedSpan.f k t232).bind fun bt239 => (if (!(bt235.1 == bt239.1) || (!(bt235.2.1 == bt239.2.1))) = true then (none) else (if (bt235.2.2 != bt239.2.2) = true then (none) else (if bt235.2.2 = true then (laws_FnAgreedSpanAdd.j0 k t232 bt235.2.2 bt239.2.2 ((t232.length : Int) == 7) bt235.1 bt235.2.1 bt239.1 bt239.2.1) else (laws_FnAgreedSpanAdd.j0 k t232 bt235.2.2 bt239.2.2 true bt235.1 bt235.2.1 bt239.1 bt239.2.1)))))) = some r := H
   have A3 := Aside0.mk A30
   clear A30
   replace H := Option.bind_eq_some_iff.mp H
   obtain ⟨⟨t235, t236, t237⟩, A40, H⟩ := H
   replace H : ((spec_AgreedSpan.f k t232).bind fun bt239 => (if (!(t235 == bt239.1) || (!(t236 == bt239.2.1))) = true then (none) else (if (t237 != bt239.2.2) = true then (none) else (if t237 = true then (laws_FnAgreedSpanAdd.j0 k t232 t237 bt239.2.2 ((t232.length : Int) == 7) t235 t236 bt239.1 bt239.2.1) else (laws_FnAgreedSpanAdd.j0 k t232 t237 bt239.2.2 true t235 t236 bt239.1 bt239.2.1))))) = some r := H
   have A4 := Aside0.mk A40
   clear A40
   replace H := Option.bind_eq_some_iff.mp H
   obtain ⟨⟨t239, t240, t241⟩, A50, H⟩ := H
   replace H : (if (!(t235 == t239) || (!(t236 == t240))) = true then (none) else (if (t237 != t241) = true then (none) else (if t237 = true then (laws_FnAgreedSpanAdd.j0 k t232 t237 t241 ((t232.length : Int) == 7) t235 t236 t239 t240) else (laws_FnAgreedSpanAdd.j0 k t232 t237 t241 true t235 t236 t239 t240)))) = some r := H
   have A5 := Aside0.mk A50
   clear A50
   have HC6 := Aside0.mk H
   clear H
   go_enter Try.func3, Try.ntmps3
   go_upto_region 6 with (first | ((with_reducible refine gate_callee (f := 13) rfl ?_); refine goesL_ (some 14) rfl rfl Try.func13 (by kernel_rfl) rfl #[.slice A0 l0.length c0] rfl (by (try simp only [List.map_toArray, List.map_cons, List.map_nil]); first | done | rfl | (simp only [List.length_drop, List.length_take]; rfl)) ?_; (with_reducible refine (spec_DrawAgreedSpan.calls k _ _ l0 t232 _ ?side1 ?side2 A3.out).mono ?_); (case side1 => repeat (first | exact HR0.out | (with_reducible refine Kd.C_alloc ?_ _) | (with_reducible refine Kd.C_drewN ?_ _) | (with_reducible refine Kd.C_drew ?_))); (case side2 => exact HC0.out); rintro e w7 ⟨v233, rfl, ho0, hb⟩; refine ⟨_, rfl, ?_⟩; have n0_ := Aside0.mk (Kd.R_lower ho0 (below_size (by repeat (first | (with_reducible first | exact HB.out | apply below_alloc | apply pw_below_drewN | apply below_drew1) | exact HB.out)))); have n1_ := Aside0.mk (below_step (by repeat (first | (with_reducible first | exact HB.out | apply below_alloc | apply pw_below_drewN | apply below_drew1) | exact HB.out)) hb); clear HB; have HO234 := n0_; have HB := n1_; clear n0_ n1_; (try clear hb); (try clear hb2); (try clear hk); (try clear hi); (try clear ho0); obtain ⟨Ao8, co8, eo8⟩ := Kd.R_slice HO234.out; subst eo8) | ((with_reducible refine gate_callee (f := 14) rfl ?_); refine goesL_ (some 17) rfl rfl Try.func14 (by kernel_rfl) rfl #[.slice Ao8 t232.length co8] rfl (by (try simp only [List.map_toArray, List.map_cons, List.map_nil]); first | done | rfl | (simp only [List.length_drop, List.length_take]; rfl)) ?_; (with_reducible refine (impl_AgreedSpan.calls k _ _ t232 t235 t236 t237 _ ?side1 ?side2 A4.out).mono ?_); (case side1 => repeat (first | exact (Kd.R_reads' HO234.out).2.2 | (with_reducible refine Kd.C_alloc ?_ _) | (with_reducible refine Kd.C_drewN ?_ _) | (with_reducible refine Kd.C_drew ?_))); (case side2 => exact (Kd.R_reads' HO234.out).2.1); rintro e w9 ⟨rfl, hb⟩; refine ⟨_, rfl, ?_⟩; have n0_ := Aside0.mk (Kd.R_below (by (with_reducible repeat (first | apply Kd.R_alloc | apply Kd.R_drewN | apply Kd.R_drew)); exact HO234.out) hb); have n1_ := Aside0.mk (below_step (by repeat (first | (with_reducible first | exact HB.out | apply below_alloc | apply pw_below_drewN | apply below_drew1) | exact HB.out)) hb); clear HO234; clear HB; have HO234 := n0_; have HB := n1_; clear n0_ n1_; (try clear hb); (try clear hb2); (try clear hk); (try clear hi)) | ((with_reducible refine gate_dst (N := 4) rfl ?_); (try (refine gate_guard (by rfl) ?_; dsimp only)); refine box_event ?hg (N := 4) ?hd (cs := #[.int .i64 0, .int .i64 0]) (t := 26) ?hr ?_; (case hd => rfl); (case hg => rfl); (case hr => first | (go_simp; done) | (go_simp; rfl)); intro gb238 hg w10 hbox hb; have n0_ := Aside0.mk (Kd.R_below (Kd.R_elderB (by (with_reducible repeat (first | apply Kd.R_alloc | apply Kd.R_drewN | apply Kd.R_drew)); exact HO234.out) gb238 (Nat.le_of_eq hg.symm)) hb); have n1_ := Aside0.mk (below_step (by repeat (first | (with_reducible first | exact HB.out | apply below_alloc | apply pw_below_drewN | apply below_drew1) | exact HB.out)) hb); have n2_ := Aside0.mk (hbox); have n3_ := Aside0.mk ((by rw [hg]; exact (below_size (by repeat (first | (with_reducible first | exact HB.out | apply below_alloc | apply pw_below_drewN | apply below_drew1) | exact HB.out))) : w.heap.size ≤ gb238)); have n4_ := Aside0.mk ((by rw [hg]; exact (below_size (by repeat (first | (with_reducible first | exact HB.out | apply below_alloc | apply pw_below_drewN | apply below_drew1) | exact HB.out))) : w.heap.size ≤ gb238)); clear HO234; clear HB; have HO234 := n0_; have HB := n1_; have BK238 := n2_; have GW238 := n3_; have GE238 := n4_; clear n0_ n1_ n2_ n3_ n4_; clear hb hbox hg; have hcz11_0 : w10.cell? ⟨gb238, 0, none⟩ = some (.int .i64 0) := (blk_cell BK238.out 0).trans rfl; have hcz11_1 : w10.cell? ⟨gb238, 1, none⟩ = some (.int .i64 0) := (blk_cell BK238.out 1).trans rfl; have hfz11_0 := blk_frozen BK238.out 0; have hfz11_1 := blk_frozen BK238.out 1) | ((with_reducible refine gate_callee (f := 15) rfl ?_); refine goesL_ (some 22) rfl rfl Try.func15 (by kernel_rfl) rfl #[.slice Ao8 t232.length co8] rfl (by (try simp only [List.map_toArray, List.map_cons, List.map_nil]); first | done | rfl | (simp only [List.length_drop, List.length_take]; rfl)) ?_; (with_reducible refine (spec_AgreedSpan.calls k _ _ t232 t239 t240 t241 _ ?side1 ?side2 A5.out).mono ?_); (case side1 => refine (Kd.R_reads' (e := 26) (base := w.heap.size) (ok := fun k_ => (True ∧ k_ ≠ gb238)) (n := t232.length) (c := co8) ?_).2.2; exact (by (with_reducible repeat (first | apply Kd.R_alloc | apply Kd.R_drewN | apply Kd.R_drew)); exact (Kd.R_mono (Kd.R_far (p := ⟨gb238, 1, none⟩) (Kd.R_far (p := ⟨gb238, 0, none⟩) (Kd.R_mono HO234.out (fun k_ hk => (⟨hk, hk.2⟩ : _ ∧ k_ ≠ gb238))) (fun _ hk => hk.2) (.int .i64 t235)) (fun _ hk => hk.2) (.int .i64 t236)) (fun _ h_ => h_.1)))); (case side2 => exact (Kd.R_reads' HO234.out).2.1); rintro e w12 ⟨rfl, hb⟩; refine ⟨_, rfl, ?_⟩; have n0_ := Aside0.mk (Kd.R_below (by (with_reducible repeat (first | apply Kd.R_alloc | apply Kd.R_drewN | apply Kd.R_drew)); exact (Kd.R_mono (Kd.R_far (p := ⟨gb238, 1, none⟩) (Kd.R_far (p := ⟨gb238, 0, none⟩) (Kd.R_mono HO234.out (fun k_ hk => (⟨hk, hk.2⟩ : _ ∧ k_ ≠ gb238))) (fun _ hk => hk.2) (.int .i64 t235)) (fun _ hk => hk.2) (.int .i64 t236)) (fun _ h_ => h_.1))) hb); have n1_ := Aside0.mk (blk_below (g := gb238) (o := .cells #[.int .i64 t235, .int .i64 t236] 26 (0, 0)) (by (with_reducible repeat (first | apply blk_drewN | apply blk_drew | apply blk_alloc)); refine blk_put (cs := #[.int .i64 t235, .int .i64 0]) ?_ 1 _ rfl; (with_reducible repeat (first | apply blk_drewN | apply blk_drew | apply blk_alloc)); refine blk_put (cs := #[.int .i64 0, .int .i64 0]) ?_ 0 _ rfl; (with_reducible repeat (first | apply blk_drewN | apply blk_drew | apply blk_alloc)); exact BK238.out) hb); have n2_ := Aside0.mk (below_step (by repeat (first | (with_reducible first | exact HB.out | apply below_alloc | apply pw_below_drewN | apply below_drew1 | refine below_set ?_ GE238.out) | exact HB.out)) hb); clear HO234; clear BK238; clear HB; have HO234 := n0_; have BK238 := n1_; have HB := n2_; clear n0_ n1_ n2_; (try clear hb); (try clear hb2); (try clear hk); (try clear hi)) | ((with_reducible refine gate_dst (N := 6) rfl ?_); (try (refine gate_guard (by rfl) ?_; dsimp only)); refine box_event ?hg (N := 6) ?hd (cs := #[.int .i64 0, .int .i64 0]) (t := 26) ?hr ?_; (case hd => rfl); (case hg => rfl); (case hr => first | (go_simp; done) | (go_simp; rfl)); intro gb242 hg w13 hbox hb; have n0_ := Aside0.mk (Kd.R_below (Kd.R_elderB (by (with_reducible repeat (first | apply Kd.R_alloc | apply Kd.R_drewN | apply Kd.R_drew)); exact HO234.out) gb242 (Nat.le_of_eq hg.symm)) hb); have n1_ := Aside0.mk (blk_below (g := gb238) (o := .cells #[.int .i64 t235, .int .i64 t236] 26 (0, 0)) (by (with_reducible repeat (first | apply blk_drewN | apply blk_drew | apply blk_alloc)); exact BK238.out) hb); have n2_ := Aside0.mk (below_step (by repeat (first | (with_reducible first | exact HB.out | apply below_alloc | apply pw_below_drewN | apply below_drew1 | refine below_set ?_ GE238.out) | exact HB.out)) hb); have n3_ := Aside0.mk (hbox); have n4_ := Aside0.mk ((by rw [hg]; exact (below_size (by repeat (first | (with_reducible first | exact HB.out | apply below_alloc | apply pw_below_drewN | apply below_drew1 | refine below_set ?_ GE238.out) | exact HB.out))) : w.heap.size ≤ gb242)); have n5_ := Aside0.mk ((by rw [hg]; exact (below_size (by repeat (first | (with_reducible first | exact HB.out | apply below_alloc | apply pw_below_drewN | apply below_drew1 | refine below_set ?_ GE238.out) | exact HB.out))) : w.heap.size ≤ gb242)); have n6_ := Aside0.mk ((by rw [hg]; exact Nat.ne_of_lt (blk_lt (g := gb238) (o := .cells #[.int .i64 t235, .int .i64 t236] 26 (0, 0)) (by (with_reducible repeat (first | apply blk_drewN | apply blk_drew | apply blk_alloc)); exact BK238.out)) : gb238 ≠ gb242)); have n7_ := Aside0.mk ((by rw [hg]; exact Nat.ne_of_gt (blk_lt (g := gb238) (o := .cells #[.int .i64 t235, .int .i64 t236] 26 (0, 0)) (by (with_reducible repeat (first | apply blk_drewN | apply blk_drew | apply blk_alloc)); exact BK238.out)) : gb242 ≠ gb238)); clear HO234; clear BK238; clear HB; have HO234 := n0_; have BK238 := n1_; have HB := n2_; have BK242 := n3_; have GW242 := n4_; have GE242 := n5_; have NB238_242 := n6_; have NB242_238 := n7_; clear n0_ n1_ n2_ n3_ n4_ n5_ n6_ n7_; clear hb hbox hg; have hnb14 := NB242_238.out; have hnc14 := NB238_242.out; have hcz15_0 : w13.cell? ⟨gb242, 0, none⟩ = some (.int .i64 0) := (blk_cell BK242.out 0).trans rfl; have hcz15_1 : w13.cell? ⟨gb242, 1, none⟩ = some (.int .i64 0) := (blk_cell BK242.out 1).trans rfl; have hfz15_0 := blk_frozen BK242.out 0; have hfz15_1 := blk_frozen BK242.out 1))
   (try simp only [Act.put, List.setIfInBounds_toArray, List.set_cons_zero, List.set_cons_succ])
   go_cut [41] (fun v41 wc => ∃ (kq : Nat) (x41_5 : Bool), v41 = .bool x41_5 ∧ Aside0 (laws_FnAgreedSpanAdd.j0 kq t232 t237 t241 x41_5 t235 t236 t239 t240 = some r) ∧ Aside0 (kq ≤ k) ∧ Aside0 (Kd.R k26 26 wc w.heap.size (fun k_ => k_ ≠ gb238 ∧ k_ ≠ gb242) (.slice Ao8 t232.length co8) t232) ∧ Aside0 (wc.heap[gb238]? = some (.cells #[.int .i64 t235, .int .i64 t236] 26 (0, 0))) ∧ Aside0 (wc.heap[gb242]? = some (.cells #[.int .i64 t239, .int .i64 t240] 26 (0, 0))) ∧ Aside0 (Below w.heap.size w wc))
   case first =>
    have H := HC6.out
    clear HC6
    by_cases c16 : (!(t235 == t239) || (!(t236 == t240))) = true
    · rw [if_pos c16] at H
      exact absurd H (by simp)
    · rw [if_neg c16] at H
      have c16b0 : (!(t235 == t239) || (!(t236 == t240))) = false := by simpa using c16
      clear c16
      (first | rw [c16b0] | (simp only [i64_w, i32_w]; rw [c16b0]) | skip)
      by_cases c17 : (t237 != t241) = true
      · rw [if_pos c17] at H
        exact absurd H (by simp)
      · rw [if_neg c17] at H
        have c17b0 : (t237 != t241) = false := by simpa using c17
        (try (have c17b1 : decide (t237 = t241) = true := by simpa using c17))
        (try (have c17b2 : (t237 == t241) = true := by simpa using c17))
        clear c17
        by_cases c18 : t237 = true
        · subst c18
          have H1 : (laws_FnAgreedSpanAdd.j0 k t232 true t241 ((t232.length : Int) == 7) t235 t236 t239 t240) = some r := by rw [if_pos rfl] at H; exact H
          clear H
          have H := H1
          clear H1
          have H' := Aside0.mk H
          clear H
          have hnb19 := NB238_242.out
          have hnc19 := NB242_238.out
          have hcz20_0 : w13.cell? ⟨gb238, 0, none⟩ = some (.int .i64 t235) := (blk_cell BK238.out 0).trans rfl
          have hcz20_1 : w13.cell? ⟨gb238, 1, none⟩ = some (.int .i64 t236) := (blk_cell BK238.out 1).trans rfl
          have hfz20_0 := blk_frozen BK238.out 0
          have hfz20_1 := blk_frozen BK238.out 1
          have hcz21_0 : w13.cell? ⟨gb242, 0, none⟩ = some (.int .i64 0) := (blk_cell BK242.out 0).trans rfl
          have hcz21_1 : w13.cell? ⟨gb242, 1, none⟩ = some (.int .i64 0) := (blk_cell BK242.out 1).trans rfl
          have hfz21_0 := blk_frozen BK242.out 0
          have hfz21_1 := blk_frozen BK242.out 1
          go_wp2
          go_meet
          case rel => exact ⟨_, (((t232.length : Int) == 7)), (by first | rfl | (simp; done) | (simp [*]; done)), H', ⟨by first | omega | exact Nat.le_refl _⟩, ⟨by (with_reducible repeat (first | apply Kd.R_alloc | apply Kd.R_drewN | apply Kd.R_drew)); exact Kd.R_mono (Kd.R_far (p := ⟨gb242, 1, none⟩) (Kd.R_far (p := ⟨gb242, 0, none⟩) (Kd.R_mono HO234.out (fun k_ hk => (⟨hk, hk.2⟩ : _ ∧ k_ ≠ gb242))) (fun _ hk => hk.2) (.int .i64 t239)) (fun _ hk => hk.2) (.int .i64 t240)) (fun _ hk => ⟨hk.1.1.2, hk.1.2⟩)⟩, ⟨by (with_reducible repeat (first | apply blk_drewN | apply blk_drew | apply blk_alloc)); refine blk_far ?_ NB238_242.out _; (with_reducible repeat (first | apply blk_drewN | apply blk_drew | apply blk_alloc)); refine blk_far ?_ NB238_242.out _; (with_reducible repeat (first | apply blk_drewN | apply blk_drew | apply blk_alloc)); exact BK238.out⟩, ⟨by (with_reducible repeat (first | apply blk_drewN | apply blk_drew | apply blk_alloc)); refine blk_put (cs := #[.int .i64 t239, .int .i64 0]) ?_ 1 _ rfl; (with_reducible repeat (first | apply blk_drewN | apply blk_drew | apply blk_alloc)); refine blk_put (cs := #[.int .i64 0, .int .i64 0]) ?_ 0 _ rfl; (with_reducible repeat (first | apply blk_drewN | apply blk_drew | apply blk_alloc)); exact BK242.out⟩, ⟨by repeat (first | (with_reducible first | exact HB.out | apply below_alloc | apply pw_below_drewN | apply below_drew1 | refine below_set ?_ GE238.out | refine below_set ?_ GE242.out) | exact HB.out)⟩⟩
        · replace c18 := Bool.eq_false_iff.mpr c18
          subst c18
          have H1 : (laws_FnAgreedSpanAdd.j0 k t232 false t241 true t235 t236 t239 t240) = some r := by rw [if_neg (show ¬ (false = true) by decide)] at H; exact H
          clear H
          have H := H1
          clear H1
          have H' := Aside0.mk H
          clear H
          have hnb22 := NB238_242.out
          have hnc22 := NB242_238.out
          have hcz23_0 : w13.cell? ⟨gb238, 0, none⟩ = some (.int .i64 t235) := (blk_cell BK238.out 0).trans rfl
          have hcz23_1 : w13.cell? ⟨gb238, 1, none⟩ = some (.int .i64 t236) := (blk_cell BK238.out 1).trans rfl
          have hfz23_0 := blk_frozen BK238.out 0
          have hfz23_1 := blk_frozen BK238.out 1
          have hcz24_0 : w13.cell? ⟨gb242, 0, none⟩ = some (.int .i64 0) := (blk_cell BK242.out 0).trans rfl
          have hcz24_1 : w13.cell? ⟨gb242, 1, none⟩ = some (.int .i64 0) := (blk_cell BK242.out 1).trans rfl
          have hfz24_0 := blk_frozen BK242.out 0
          have hfz24_1 := blk_frozen BK242.out 1
          go_wp2
          go_meet
          case rel => exact ⟨_, (true), (by first | rfl | (simp; done) | (simp [*]; done)), H', ⟨by first | omega | exact Nat.le_refl _⟩, ⟨by (with_reducible repeat (first | apply Kd.R_alloc | apply Kd.R_drewN | apply Kd.R_drew)); exact Kd.R_mono (Kd.R_far (p := ⟨gb242, 1, none⟩) (Kd.R_far (p := ⟨gb242, 0, none⟩) (Kd.R_mono HO234.out (fun k_ hk => (⟨hk, hk.2⟩ : _ ∧ k_ ≠ gb242))) (fun _ hk => hk.2) (.int .i64 t239)) (fun _ hk => hk.2) (.int .i64 t240)) (fun _ hk => ⟨hk.1.1.2, hk.1.2⟩)⟩, ⟨by (with_reducible repeat (first | apply blk_drewN | apply blk_drew | apply blk_alloc)); refine blk_far ?_ NB238_242.out _; (with_reducible repeat (first | apply blk_drewN | apply blk_drew | apply blk_alloc)); refine blk_far ?_ NB238_242.out _; (with_reducible repeat (first | apply blk_drewN | apply blk_drew | apply blk_alloc)); exact BK238.out⟩, ⟨by (with_reducible repeat (first | apply blk_drewN | apply blk_drew | apply blk_alloc)); refine blk_put (cs := #[.int .i64 t239, .int .i64 0]) ?_ 1 _ rfl; (with_reducible repeat (first | apply blk_drewN | apply blk_drew | apply blk_alloc)); refine blk_put (cs := #[.int .i64 0, .int .i64 0]) ?_ 0 _ rfl; (with_reducible repeat (first | apply blk_drewN | apply blk_drew | apply blk_alloc)); exact BK242.out⟩, ⟨by repeat (first | (with_reducible first | exact HB.out | apply below_alloc | apply pw_below_drewN | apply below_drew1 | refine below_set ?_ GE238.out | refine below_set ?_ GE242.out) | exact HB.out)⟩⟩
   case rest =>
    clear HC6
    try clear c1
    try clear c2
    try clear c2b0
    try clear c2b1
    try clear p2
    try clear c3
    try clear c13
    try clear c14
    try clear c15
    try clear c16
    try clear c16b0
    try clear c17
    try clear c17b0
    try clear c17b1
    try clear c17b2
    try clear c18
    try clear c19
    try clear c22
    try clear hcz11_0
    try clear hcz11_1
    try clear hcz15_0
    try clear hcz15_1
    try clear hcz20_0
    try clear hcz20_1
    try clear hcz21_0
    try clear hcz21_1
    try clear hcz23_0
    try clear hcz23_1
    try clear hcz24_0
    try clear hcz24_1
    try clear hfz11_0
    try clear hfz11_1
    try clear hfz15_0
    try clear hfz15_1
    try clear hfz20_0
    try clear hfz20_1
    try clear hfz21_0
    try clear hfz21_1
    try clear hfz23_0
    try clear hfz23_1
    try clear hfz24_0
    try clear hfz24_1
    obtain ⟨kq, x41_5, rfl, HA, HJ5, HO_3, BK238, BK242, HB⟩ := hcut
    cases kq with
    | zero => exact absurd HA.out (by simp [laws_FnAgreedSpanAdd.j0])
    | succ kj5 =>
     have H := HA.out
     clear HA
     simp only [laws_FnAgreedSpanAdd.j0] at H
     by_cases c25 : x41_5 = true
     · subst c25
       have H1 : (if (t235 == t239 && (t236 == t240)) = true then (some (t237 == t241)) else (some false)) = some r := by rw [if_pos rfl] at H; exact H
       clear H
       have H := H1
       clear H1
       by_cases c26 : (t235 == t239 && (t236 == t240)) = true
       · rw [if_pos c26] at H
         have c26b0 : (t235 == t239 && (t236 == t240)) = true := c26
         (try (have c26b1 : decide (t235 = t239 && (t236 == t240)) = true := by simpa using c26))
         (try (have c26b2 : (t235 == t239 && (t236 == t240)) = true := by simpa using c26))
         clear c26
         obtain rfl := Option.some.inj H
         have hnb27 := NB238_242.out
         have hnc27 := NB242_238.out
         have hcz28_0 : wc.cell? ⟨gb238, 0, none⟩ = some (.int .i64 t235) := (blk_cell BK238.out 0).trans rfl
         have hcz28_1 : wc.cell? ⟨gb238, 1, none⟩ = some (.int .i64 t236) := (blk_cell BK238.out 1).trans rfl
         have hfz28_0 := blk_frozen BK238.out 0
         have hfz28_1 := blk_frozen BK238.out 1
         have hcz29_0 : wc.cell? ⟨gb242, 0, none⟩ = some (.int .i64 t239) := (blk_cell BK242.out 0).trans rfl
         have hcz29_1 : wc.cell? ⟨gb242, 1, none⟩ = some (.int .i64 t240) := (blk_cell BK242.out 1).trans rfl
         have hfz29_0 := blk_frozen BK242.out 0
         have hfz29_1 := blk_frozen BK242.out 1
         go_wp2
         go_ret
         exact ⟨by first | rfl | (simp [errW_none, errW_some] <;> rfl) | (simp [*, errW_none, errW_some] <;> rfl), by repeat (first | (with_reducible first | exact HB.out | apply below_alloc | apply pw_below_drewN | apply below_drew1 | refine below_set ?_ GE238.out | refine below_set ?_ GE242.out) | exact HB.out)⟩
       · rw [if_neg c26] at H
         have c26b0 : (t235 == t239 && (t236 == t240)) = false := by simpa using c26
         (try (have c26b1 : decide (t235 = t239 && (t236 == t240)) = false := by simpa using c26))
         (try (have c26b2 : (t235 == t239 && (t236 == t240)) = false := by simpa using c26))
         (try (have c26b3 : ¬ (t235 = t239 && (t236 == t240)) := by simpa using c26))
         clear c26
         obtain rfl := Option.some.inj H
         have hnb30 := NB238_242.out
         have hnc30 := NB242_238.out
         have hcz31_0 : wc.cell? ⟨gb238, 0, none⟩ = some (.int .i64 t235) := (blk_cell BK238.out 0).trans rfl
         have hcz31_1 : wc.cell? ⟨gb238, 1, none⟩ = some (.int .i64 t236) := (blk_cell BK238.out 1).trans rfl
         have hfz31_0 := blk_frozen BK238.out 0
         have hfz31_1 := blk_frozen BK238.out 1
         have hcz32_0 : wc.cell? ⟨gb242, 0, none⟩ = some (.int .i64 t239) := (blk_cell BK242.out 0).trans rfl
         have hcz32_1 : wc.cell? ⟨gb242, 1, none⟩ = some (.int .i64 t240) := (blk_cell BK242.out 1).trans rfl
         have hfz32_0 := blk_frozen BK242.out 0
         have hfz32_1 := blk_frozen BK242.out 1
         go_wp2
         go_ret
         exact ⟨by first | rfl | (simp [errW_none, errW_some] <;> rfl) | (simp [*, errW_none, errW_some] <;> rfl), by repeat (first | (with_reducible first | exact HB.out | apply below_alloc | apply pw_below_drewN | apply below_drew1 | refine below_set ?_ GE238.out | refine below_set ?_ GE242.out) | exact HB.out)⟩
     · replace c25 := Bool.eq_false_iff.mpr c25
       subst c25
       have H1 : ((some (([] : List (S26)) : List (S26))).bind fun y243 => (if y243.length + t232.length < 8796093022208 then ((some (y243 ++ t232 : List (S26))).bind fun y246 => ((some (([(⟨t235, t236⟩ : S26)] : List (S26)) : List (S26))).bind fun y249 => (if y246.length + y249.length < 8796093022208 then ((impl_AgreedSpan.f kj5 (y246 ++ y249)).bind fun bt255 => (if bt255.2.2 = true then (some (bt255.1 == t235 && (bt255.2.1 == t236))) else (none))) else (none)))) else (none))) = some r := by rw [if_neg (show ¬ (false = true) by decide)] at H; exact H
       clear H
       have H := H1
       clear H1
       obtain ⟨y243, hy243⟩ : ∃ y_ : List (S26), y_ = (([] : List (S26))) := ⟨_, rfl⟩
       replace H : (if y243.length + t232.length < 8796093022208 then ((some (y243 ++ t232 : List (S26))).bind fun y246 => ((some (([(⟨t235, t236⟩ : S26)] : List (S26)) : List (S26))).bind fun y249 => (if y246.length + y249.length < 8796093022208 then ((impl_AgreedSpan.f kj5 (y246 ++ y249)).bind fun bt255 => (if bt255.2.2 = true then (some (bt255.1 == t235 && (bt255.2.1 == t236))) else (none))) else (none)))) else (none)) = some r := by first | (rw [hy243]; with_reducible exact H) | (have H2_ := (Option.bind_some _ _).symm.trans H; rw [hy243]; with_reducible exact H2_) | (have H2_ := (Option.bind_some _ _).symm.trans H; with_reducible exact H2_) | with_reducible exact H | (rw [hy243]; exact H) | exact H
       have Ny243 := Aside0.mk hy243
       clear hy243
       by_cases c33 : y243.length + t232.length < 8796093022208
       · rw [if_pos c33] at H
         have LMc33 := Aside0.mk c33
         clear c33
         obtain ⟨y246, hy246⟩ : ∃ y_ : List (S26), y_ = (y243 ++ t232) := ⟨_, rfl⟩
         replace H : ((some (([(⟨t235, t236⟩ : S26)] : List (S26)) : List (S26))).bind fun y249 => (if y246.length + y249.length < 8796093022208 then ((impl_AgreedSpan.f kj5 (y246 ++ y249)).bind fun bt255 => (if bt255.2.2 = true then (some (bt255.1 == t235 && (bt255.2.1 == t236))) else (none))) else (none))) = some r := by first | (rw [hy246]; with_reducible exact H) | (have H2_ := (Option.bind_some _ _).symm.trans H; rw [hy246]; with_reducible exact H2_) | (have H2_ := (Option.bind_some _ _).symm.trans H; with_reducible exact H2_) | with_reducible exact H | (rw [hy246]; exact H) | exact H
         have Ny246 := Aside0.mk hy246
         clear hy246
         obtain ⟨y249, hy249⟩ : ∃ y_ : List (S26), y_ = (([(⟨t235, t236⟩ : S26)] : List (S26))) := ⟨_, rfl⟩
         replace H : (if y246.length + y249.length < 8796093022208 then ((impl_AgreedSpan.f kj5 (y246 ++ y249)).bind fun bt255 => (if bt255.2.2 = true then (some (bt255.1 == t235 && (bt255.2.1 == t236))) else (none))) else (none)) = some r := by first | (rw [hy249]; with_reducible exact H) | (have H2_ := (Option.bind_some _ _).symm.trans H; rw [hy249]; with_reducible exact H2_) | (have H2_ := (Option.bind_some _ _).symm.trans H; with_reducible exact H2_) | with_reducible exact H | (rw [hy249]; exact H) | exact H
         have Ny249 := Aside0.mk hy249
         clear hy249
         by_cases c34 : y246.length + y249.length < 8796093022208
         · rw [if_pos c34] at H
           have LMc34 := Aside0.mk c34
           clear c34
           obtain ⟨y252, hy252⟩ : ∃ y_ : List (S26), y_ = (y246 ++ y249) := ⟨_, rfl⟩
           replace H : ((impl_AgreedSpan.f kj5 y252).bind fun bt255 => (if bt255.2.2 = true then (some (bt255.1 == t235 && (bt255.2.1 == t236))) else (none))) = some r := by first | (rw [hy252]; with_reducible exact H) | (have H2_ := (Option.bind_some _ _).symm.trans H; rw [hy252]; with_reducible exact H2_) | (have H2_ := (Option.bind_some _ _).symm.trans H; with_reducible exact H2_) | with_reducible exact H | (rw [hy252]; exact H) | exact H
           have Ny252 := Aside0.mk hy252
           clear hy252
           replace H := Option.bind_eq_some_iff.mp H
           obtain ⟨⟨t255, t256, t257⟩, A350, H⟩ := H
           replace H : (if t257 = true then (some (t255 == t235 && (t256 == t236))) else (none)) = some r := H
           have A35 := Aside0.mk A350
           clear A350
           by_cases c36 : t257 = true
           · subst c36
             have H1 : (some (t255 == t235 && (t256 == t236))) = some r := by rw [if_pos rfl] at H; exact H
             clear H
             have H := H1
             clear H1
             obtain rfl := Option.some.inj H
             try go_wp2
             have n0_ := Aside0.mk (Kd.R_drew HO_3.out)
             have n1_ := Aside0.mk (blk_drew BK238.out)
             have n2_ := Aside0.mk (blk_drew BK242.out)
             have n3_ := Aside0.mk (below_drew1 HB.out)
             clear HO_3
             clear BK238
             clear BK242
             clear HB
             have HO_3 := n0_
             have BK238 := n1_
             have BK242 := n2_
             have HB := n3_
             clear n0_ n1_ n2_ n3_
             refine start_ (n := 13) (S := fun w' => w'.cell? ⟨gb238, 0, none⟩ = some (.int .i64 t235) ∧ w'.cell? ⟨gb238, 1, none⟩ = some (.int .i64 t236)) (ds := []) #[false, false, false, false, false, false, false, false, false, false, false, false, false] (by kernel_rfl) rfl rfl ⟨(blk_cell BK238.out 0).trans rfl, (blk_cell BK238.out 1).trans rfl⟩ (fun hHeld => ?_); refine with_tabW laws_FnAgreedSpanAdd.tab8 laws_FnAgreedSpanAdd.bits8 (fun HT_ HW_ => ?_)
             generalize wc.drew = w37 at HO_3 BK238 BK242 HB hHeld ⊢
             refine pure_ (i := 1) (N := some 52) (v := ?_) (a' := ?_) #[false, true, false, false, false, false, false, false, false, false, false, false, false] rfl rfl (any_of HT_.out (by kernel_rfl)) (fun _ _ _ h => h) (Or.inl ⟨by rfl, ?_⟩) ?_ ?_
             rotate_left
             · intro w'
               go_simp
               with_reducible rfl
             rotate_left
             · simp only [Act.put, List.setIfInBounds_toArray, List.set_cons_zero, List.set_cons_succ, i64_w, i32_w]
               rfl
             refine take_ (i := 3) (N := some 54) (v := ?_) (a' := ?_) #[false, true, false, true, false, false, false, false, false, false, false, false, false] rfl rfl (take_ofW HT_.out HW_.out (by kernel_rfl)) (fun _ _ _ h => h) (Or.inl ⟨by rfl, ?_⟩) hHeld ?_ ?_
             rotate_left
             · rintro w' ⟨s0, s1⟩
               go_simp
               with_reducible rfl
             rotate_left
             · simp only [Act.put, List.setIfInBounds_toArray, List.set_cons_zero, List.set_cons_succ, i64_w, i32_w]
               rfl
             refine join_ (σ := Value × Value × Value × Value × Nat) 2 #[true, true, true, true, true, true, true, true, true, true, true, false, false] (fun s_ => [(51, s_.1), (53, s_.2.1), (55, s_.2.2.1), (56, s_.2.2.2.1), (57, .tuple #[.agg #[.int .i64 t255, .int .i64 t256], .bool true]), (8, .pointer (some ⟨s_.2.2.2.2, 0, none⟩)), (50, .tuple #[.agg #[.int .i64 t255, .int .i64 t256], .bool true]), (58, .agg #[.int .i64 t255, .int .i64 t256]), (59, .bool true)]) (fun s_ w' => (w'.cell? ⟨gb238, 0, none⟩ = some (.int .i64 t235) ∧ w'.cell? ⟨gb238, 1, none⟩ = some (.int .i64 t236)) ∧ (Kd.R k26 26 w' w.heap.size (fun k_ => some k_ ≠ (s_.2.2.2.1 : Value).ownBlock ∧ some k_ ≠ (.slice Ao8 t232.length co8 : Value).ownBlock ∧ k_ ≠ gb238 ∧ k_ ≠ gb242 ∧ k_ ≠ s_.2.2.2.2) s_.2.2.1 y249) ∧ (Kd.R k26 26 w' w.heap.size (fun k_ => some k_ ≠ (s_.2.2.1 : Value).ownBlock ∧ some k_ ≠ (.slice Ao8 t232.length co8 : Value).ownBlock ∧ k_ ≠ gb238 ∧ k_ ≠ gb242 ∧ k_ ≠ s_.2.2.2.2) s_.2.2.2.1 y252) ∧ (Kd.R k26 26 w' w.heap.size (fun k_ => some k_ ≠ (s_.2.2.1 : Value).ownBlock ∧ some k_ ≠ (s_.2.2.2.1 : Value).ownBlock ∧ k_ ≠ gb238 ∧ k_ ≠ gb242 ∧ k_ ≠ s_.2.2.2.2) (.slice Ao8 t232.length co8) t232) ∧ (w'.heap[gb238]? = some (.cells #[.int .i64 t235, .int .i64 t236] 26 (0, 0))) ∧ (w'.heap[gb242]? = some (.cells #[.int .i64 t239, .int .i64 t240] 26 (0, 0))) ∧ (w'.heap[s_.2.2.2.2]? = some (.cells #[.int .i64 0, .int .i64 0] 26 (0, 0))) ∧ (w.heap.size ≤ s_.2.2.2.2) ∧ (w.heap.size ≤ s_.2.2.2.2) ∧ (gb238 ≠ s_.2.2.2.2) ∧ (s_.2.2.2.2 ≠ gb238) ∧ (gb242 ≠ s_.2.2.2.2) ∧ (s_.2.2.2.2 ≠ gb242) ∧ (Below w.heap.size w w')) ?_ ?_
             rotate_left
             · intro hJ0_2_4_5_6_10
               refine join_ (σ := Value × Value × Value × Value) 3 #[true, true, true, true, true, true, true, true, true, true, false, false, false] (fun s_ => [(51, s_.1), (53, s_.2.1), (55, s_.2.2.1), (56, s_.2.2.2), (57, .tuple #[.agg #[.int .i64 t255, .int .i64 t256], .bool true]), (50, .tuple #[.agg #[.int .i64 t255, .int .i64 t256], .bool true]), (58, .agg #[.int .i64 t255, .int .i64 t256]), (59, .bool true)]) (fun s_ w' => (w'.cell? ⟨gb238, 0, none⟩ = some (.int .i64 t235) ∧ w'.cell? ⟨gb238, 1, none⟩ = some (.int .i64 t236)) ∧ (Kd.R k26 26 w' w.heap.size (fun k_ => some k_ ≠ (s_.2.2.2 : Value).ownBlock ∧ some k_ ≠ (.slice Ao8 t232.length co8 : Value).ownBlock ∧ k_ ≠ gb238 ∧ k_ ≠ gb242) s_.2.2.1 y249) ∧ (Kd.R k26 26 w' w.heap.size (fun k_ => some k_ ≠ (s_.2.2.1 : Value).ownBlock ∧ some k_ ≠ (.slice Ao8 t232.length co8 : Value).ownBlock ∧ k_ ≠ gb238 ∧ k_ ≠ gb242) s_.2.2.2 y252) ∧ (Kd.R k26 26 w' w.heap.size (fun k_ => some k_ ≠ (s_.2.2.1 : Value).ownBlock ∧ some k_ ≠ (s_.2.2.2 : Value).ownBlock ∧ k_ ≠ gb238 ∧ k_ ≠ gb242) (.slice Ao8 t232.length co8) t232) ∧ (w'.heap[gb238]? = some (.cells #[.int .i64 t235, .int .i64 t236] 26 (0, 0))) ∧ (w'.heap[gb242]? = some (.cells #[.int .i64 t239, .int .i64 t240] 26 (0, 0))) ∧ (Below w.heap.size w w')) ?_ ?_
               rotate_left
               · intro hJ0_2_4_5_6
                 refine join_ (σ := Value × Value × Value × Value × Nat) 6 #[true, true, true, true, true, true, false, false, false, false, true, false, false] (fun s_ => [(51, s_.1), (53, s_.2.1), (55, s_.2.2.1), (56, s_.2.2.2.1), (8, .pointer (some ⟨s_.2.2.2.2, 0, none⟩))]) (fun s_ w' => (w'.cell? ⟨gb238, 0, none⟩ = some (.int .i64 t235) ∧ w'.cell? ⟨gb238, 1, none⟩ = some (.int .i64 t236)) ∧ (Kd.R k26 26 w' w.heap.size (fun k_ => some k_ ≠ (s_.2.2.2.1 : Value).ownBlock ∧ some k_ ≠ (.slice Ao8 t232.length co8 : Value).ownBlock ∧ k_ ≠ gb238 ∧ k_ ≠ gb242 ∧ k_ ≠ s_.2.2.2.2) s_.2.2.1 y249) ∧ (Kd.R k26 26 w' w.heap.size (fun k_ => some k_ ≠ (s_.2.2.1 : Value).ownBlock ∧ some k_ ≠ (.slice Ao8 t232.length co8 : Value).ownBlock ∧ k_ ≠ gb238 ∧ k_ ≠ gb242 ∧ k_ ≠ s_.2.2.2.2) s_.2.2.2.1 y252) ∧ (Kd.R k26 26 w' w.heap.size (fun k_ => some k_ ≠ (s_.2.2.1 : Value).ownBlock ∧ some k_ ≠ (s_.2.2.2.1 : Value).ownBlock ∧ k_ ≠ gb238 ∧ k_ ≠ gb242 ∧ k_ ≠ s_.2.2.2.2) (.slice Ao8 t232.length co8) t232) ∧ (w'.heap[gb238]? = some (.cells #[.int .i64 t235, .int .i64 t236] 26 (0, 0))) ∧ (w'.heap[gb242]? = some (.cells #[.int .i64 t239, .int .i64 t240] 26 (0, 0))) ∧ (w'.heap[s_.2.2.2.2]? = some (.cells #[.int .i64 0, .int .i64 0] 26 (0, 0))) ∧ (w.heap.size ≤ s_.2.2.2.2) ∧ (w.heap.size ≤ s_.2.2.2.2) ∧ (gb238 ≠ s_.2.2.2.2) ∧ (s_.2.2.2.2 ≠ gb238) ∧ (gb242 ≠ s_.2.2.2.2) ∧ (s_.2.2.2.2 ≠ gb242) ∧ (Below w.heap.size w w')) ?_ ?_
                 rotate_left
                 · intro hJ0_2_4_5_10
                   refine join_ (σ := Value × Value × Value × Value) 7 #[true, true, true, true, true, true, false, false, false, false, false, false, false] (fun s_ => [(51, s_.1), (53, s_.2.1), (55, s_.2.2.1), (56, s_.2.2.2)]) (fun s_ w' => (w'.cell? ⟨gb238, 0, none⟩ = some (.int .i64 t235) ∧ w'.cell? ⟨gb238, 1, none⟩ = some (.int .i64 t236)) ∧ (Kd.R k26 26 w' w.heap.size (fun k_ => some k_ ≠ (s_.2.2.2 : Value).ownBlock ∧ some k_ ≠ (.slice Ao8 t232.length co8 : Value).ownBlock ∧ k_ ≠ gb238 ∧ k_ ≠ gb242) s_.2.2.1 y249) ∧ (Kd.R k26 26 w' w.heap.size (fun k_ => some k_ ≠ (s_.2.2.1 : Value).ownBlock ∧ some k_ ≠ (.slice Ao8 t232.length co8 : Value).ownBlock ∧ k_ ≠ gb238 ∧ k_ ≠ gb242) s_.2.2.2 y252) ∧ (Kd.R k26 26 w' w.heap.size (fun k_ => some k_ ≠ (s_.2.2.1 : Value).ownBlock ∧ some k_ ≠ (s_.2.2.2 : Value).ownBlock ∧ k_ ≠ gb238 ∧ k_ ≠ gb242) (.slice Ao8 t232.length co8) t232) ∧ (w'.heap[gb238]? = some (.cells #[.int .i64 t235, .int .i64 t236] 26 (0, 0))) ∧ (w'.heap[gb242]? = some (.cells #[.int .i64 t239, .int .i64 t240] 26 (0, 0))) ∧ (Below w.heap.size w w')) ?_ ?_
                   rotate_left
                   · intro hJ0_2_4_5
                     refine join_ (σ := Value × Value × Value × Nat) 7 #[true, true, true, true, true, false, false, false, false, false, true, false, false] (fun s_ => [(51, s_.1), (53, s_.2.1), (55, s_.2.2.1), (8, .pointer (some ⟨s_.2.2.2, 0, none⟩))]) (fun s_ w' => (w'.cell? ⟨gb238, 0, none⟩ = some (.int .i64 t235) ∧ w'.cell? ⟨gb238, 1, none⟩ = some (.int .i64 t236)) ∧ (Kd.R k26 26 w' w.heap.size (fun k_ => some k_ ≠ (s_.2.2.1 : Value).ownBlock ∧ some k_ ≠ (.slice Ao8 t232.length co8 : Value).ownBlock ∧ k_ ≠ gb238 ∧ k_ ≠ gb242 ∧ k_ ≠ s_.2.2.2) s_.2.1 y246) ∧ (Kd.R k26 26 w' w.heap.size (fun k_ => some k_ ≠ (s_.2.1 : Value).ownBlock ∧ some k_ ≠ (.slice Ao8 t232.length co8 : Value).ownBlock ∧ k_ ≠ gb238 ∧ k_ ≠ gb242 ∧ k_ ≠ s_.2.2.2) s_.2.2.1 y249) ∧ (Kd.R k26 26 w' w.heap.size (fun k_ => some k_ ≠ (s_.2.1 : Value).ownBlock ∧ some k_ ≠ (s_.2.2.1 : Value).ownBlock ∧ k_ ≠ gb238 ∧ k_ ≠ gb242 ∧ k_ ≠ s_.2.2.2) (.slice Ao8 t232.length co8) t232) ∧ (w'.heap[gb238]? = some (.cells #[.int .i64 t235, .int .i64 t236] 26 (0, 0))) ∧ (w'.heap[gb242]? = some (.cells #[.int .i64 t239, .int .i64 t240] 26 (0, 0))) ∧ (w'.heap[s_.2.2.2]? = some (.cells #[.int .i64 0, .int .i64 0] 26 (0, 0))) ∧ (w.heap.size ≤ s_.2.2.2) ∧ (w.heap.size ≤ s_.2.2.2) ∧ (gb238 ≠ s_.2.2.2) ∧ (s_.2.2.2 ≠ gb238) ∧ (gb242 ≠ s_.2.2.2) ∧ (s_.2.2.2 ≠ gb242) ∧ (Below w.heap.size w w')) ?_ ?_
                     rotate_left
                     · intro hJ0_2_4_10
                       refine join_ (σ := Value × Value × Value) 8 #[true, true, true, true, true, false, false, false, false, false, false, false, false] (fun s_ => [(51, s_.1), (53, s_.2.1), (55, s_.2.2)]) (fun s_ w' => (w'.cell? ⟨gb238, 0, none⟩ = some (.int .i64 t235) ∧ w'.cell? ⟨gb238, 1, none⟩ = some (.int .i64 t236)) ∧ (Kd.R k26 26 w' w.heap.size (fun k_ => some k_ ≠ (s_.2.2 : Value).ownBlock ∧ some k_ ≠ (.slice Ao8 t232.length co8 : Value).ownBlock ∧ k_ ≠ gb238 ∧ k_ ≠ gb242) s_.2.1 y246) ∧ (Kd.R k26 26 w' w.heap.size (fun k_ => some k_ ≠ (s_.2.1 : Value).ownBlock ∧ some k_ ≠ (.slice Ao8 t232.length co8 : Value).ownBlock ∧ k_ ≠ gb238 ∧ k_ ≠ gb242) s_.2.2 y249) ∧ (Kd.R k26 26 w' w.heap.size (fun k_ => some k_ ≠ (s_.2.1 : Value).ownBlock ∧ some k_ ≠ (s_.2.2 : Value).ownBlock ∧ k_ ≠ gb238 ∧ k_ ≠ gb242) (.slice Ao8 t232.length co8) t232) ∧ (w'.heap[gb238]? = some (.cells #[.int .i64 t235, .int .i64 t236] 26 (0, 0))) ∧ (w'.heap[gb242]? = some (.cells #[.int .i64 t239, .int .i64 t240] 26 (0, 0))) ∧ (Below w.heap.size w w')) ?_ ?_
                       rotate_left
                       · intro hJ0_2_4
                         refine join_ (σ := Value × Value × Nat) 8 #[true, true, true, true, false, false, false, false, false, false, true, false, false] (fun s_ => [(51, s_.1), (53, s_.2.1), (8, .pointer (some ⟨s_.2.2, 0, none⟩))]) (fun s_ w' => (w'.cell? ⟨gb238, 0, none⟩ = some (.int .i64 t235) ∧ w'.cell? ⟨gb238, 1, none⟩ = some (.int .i64 t236)) ∧ (Kd.R k26 26 w' w.heap.size (fun k_ => some k_ ≠ (.slice Ao8 t232.length co8 : Value).ownBlock ∧ k_ ≠ gb238 ∧ k_ ≠ gb242 ∧ k_ ≠ s_.2.2) s_.2.1 y246) ∧ (Kd.R k26 26 w' w.heap.size (fun k_ => some k_ ≠ (s_.2.1 : Value).ownBlock ∧ k_ ≠ gb238 ∧ k_ ≠ gb242 ∧ k_ ≠ s_.2.2) (.slice Ao8 t232.length co8) t232) ∧ (w'.heap[gb238]? = some (.cells #[.int .i64 t235, .int .i64 t236] 26 (0, 0))) ∧ (w'.heap[gb242]? = some (.cells #[.int .i64 t239, .int .i64 t240] 26 (0, 0))) ∧ (w'.heap[s_.2.2]? = some (.cells #[.int .i64 0, .int .i64 0] 26 (0, 0))) ∧ (w.heap.size ≤ s_.2.2) ∧ (w.heap.size ≤ s_.2.2) ∧ (gb238 ≠ s_.2.2) ∧ (s_.2.2 ≠ gb238) ∧ (gb242 ≠ s_.2.2) ∧ (s_.2.2 ≠ gb242) ∧ (Below w.heap.size w w')) ?_ ?_
                         rotate_left
                         · intro hJ0_2_10
                           refine join_ (σ := Value × Value × Nat) 8 #[true, true, false, true, true, false, false, false, false, false, true, false, false] (fun s_ => [(51, s_.1), (55, s_.2.1), (8, .pointer (some ⟨s_.2.2, 0, none⟩))]) (fun s_ w' => (w'.cell? ⟨gb238, 0, none⟩ = some (.int .i64 t235) ∧ w'.cell? ⟨gb238, 1, none⟩ = some (.int .i64 t236)) ∧ (Kd.R k26 26 w' w.heap.size (fun k_ => some k_ ≠ (s_.2.1 : Value).ownBlock ∧ some k_ ≠ (.slice Ao8 t232.length co8 : Value).ownBlock ∧ k_ ≠ gb238 ∧ k_ ≠ gb242 ∧ k_ ≠ s_.2.2) s_.1 y243) ∧ (Kd.R k26 26 w' w.heap.size (fun k_ => some k_ ≠ (s_.1 : Value).ownBlock ∧ some k_ ≠ (.slice Ao8 t232.length co8 : Value).ownBlock ∧ k_ ≠ gb238 ∧ k_ ≠ gb242 ∧ k_ ≠ s_.2.2) s_.2.1 y249) ∧ (Kd.R k26 26 w' w.heap.size (fun k_ => some k_ ≠ (s_.1 : Value).ownBlock ∧ some k_ ≠ (s_.2.1 : Value).ownBlock ∧ k_ ≠ gb238 ∧ k_ ≠ gb242 ∧ k_ ≠ s_.2.2) (.slice Ao8 t232.length co8) t232) ∧ (w'.heap[gb238]? = some (.cells #[.int .i64 t235, .int .i64 t236] 26 (0, 0))) ∧ (w'.heap[gb242]? = some (.cells #[.int .i64 t239, .int .i64 t240] 26 (0, 0))) ∧ (w'.heap[s_.2.2]? = some (.cells #[.int .i64 0, .int .i64 0] 26 (0, 0))) ∧ (w.heap.size ≤ s_.2.2) ∧ (w.heap.size ≤ s_.2.2) ∧ (gb238 ≠ s_.2.2) ∧ (s_.2.2 ≠ gb238) ∧ (gb242 ≠ s_.2.2) ∧ (s_.2.2 ≠ gb242) ∧ (Below w.heap.size w w')) ?_ ?_
                           rotate_left
                           · intro hJ0_4_10
                             refine join_ (σ := Value × Value) 9 #[true, true, true, true, false, false, false, false, false, false, false, false, false] (fun s_ => [(51, s_.1), (53, s_.2)]) (fun s_ w' => (w'.cell? ⟨gb238, 0, none⟩ = some (.int .i64 t235) ∧ w'.cell? ⟨gb238, 1, none⟩ = some (.int .i64 t236)) ∧ (Kd.R k26 26 w' w.heap.size (fun k_ => some k_ ≠ (.slice Ao8 t232.length co8 : Value).ownBlock ∧ k_ ≠ gb238 ∧ k_ ≠ gb242) s_.2 y246) ∧ (Kd.R k26 26 w' w.heap.size (fun k_ => some k_ ≠ (s_.2 : Value).ownBlock ∧ k_ ≠ gb238 ∧ k_ ≠ gb242) (.slice Ao8 t232.length co8) t232) ∧ (w'.heap[gb238]? = some (.cells #[.int .i64 t235, .int .i64 t236] 26 (0, 0))) ∧ (w'.heap[gb242]? = some (.cells #[.int .i64 t239, .int .i64 t240] 26 (0, 0))) ∧ (Below w.heap.size w w')) ?_ ?_
                             rotate_left
                             · intro hJ0_2
                               refine join_ (σ := Value × Value) 9 #[true, true, false, true, true, false, false, false, false, false, false, false, false] (fun s_ => [(51, s_.1), (55, s_.2)]) (fun s_ w' => (w'.cell? ⟨gb238, 0, none⟩ = some (.int .i64 t235) ∧ w'.cell? ⟨gb238, 1, none⟩ = some (.int .i64 t236)) ∧ (Kd.R k26 26 w' w.heap.size (fun k_ => some k_ ≠ (s_.2 : Value).ownBlock ∧ some k_ ≠ (.slice Ao8 t232.length co8 : Value).ownBlock ∧ k_ ≠ gb238 ∧ k_ ≠ gb242) s_.1 y243) ∧ (Kd.R k26 26 w' w.heap.size (fun k_ => some k_ ≠ (s_.1 : Value).ownBlock ∧ some k_ ≠ (.slice Ao8 t232.length co8 : Value).ownBlock ∧ k_ ≠ gb238 ∧ k_ ≠ gb242) s_.2 y249) ∧ (Kd.R k26 26 w' w.heap.size (fun k_ => some k_ ≠ (s_.1 : Value).ownBlock ∧ some k_ ≠ (s_.2 : Value).ownBlock ∧ k_ ≠ gb238 ∧ k_ ≠ gb242) (.slice Ao8 t232.length co8) t232) ∧ (w'.heap[gb238]? = some (.cells #[.int .i64 t235, .int .i64 t236] 26 (0, 0))) ∧ (w'.heap[gb242]? = some (.cells #[.int .i64 t239, .int .i64 t240] 26 (0, 0))) ∧ (Below w.heap.size w w')) ?_ ?_
                               rotate_left
                               · intro hJ0_4
                                 refine join_ (σ := Value × Nat) 9 #[true, true, false, true, false, false, false, false, false, false, true, false, false] (fun s_ => [(51, s_.1), (8, .pointer (some ⟨s_.2, 0, none⟩))]) (fun s_ w' => (w'.cell? ⟨gb238, 0, none⟩ = some (.int .i64 t235) ∧ w'.cell? ⟨gb238, 1, none⟩ = some (.int .i64 t236)) ∧ (Kd.R k26 26 w' w.heap.size (fun k_ => some k_ ≠ (.slice Ao8 t232.length co8 : Value).ownBlock ∧ k_ ≠ gb238 ∧ k_ ≠ gb242 ∧ k_ ≠ s_.2) s_.1 y243) ∧ (Kd.R k26 26 w' w.heap.size (fun k_ => some k_ ≠ (s_.1 : Value).ownBlock ∧ k_ ≠ gb238 ∧ k_ ≠ gb242 ∧ k_ ≠ s_.2) (.slice Ao8 t232.length co8) t232) ∧ (w'.heap[gb238]? = some (.cells #[.int .i64 t235, .int .i64 t236] 26 (0, 0))) ∧ (w'.heap[gb242]? = some (.cells #[.int .i64 t239, .int .i64 t240] 26 (0, 0))) ∧ (w'.heap[s_.2]? = some (.cells #[.int .i64 0, .int .i64 0] 26 (0, 0))) ∧ (w.heap.size ≤ s_.2) ∧ (w.heap.size ≤ s_.2) ∧ (gb238 ≠ s_.2) ∧ (s_.2 ≠ gb238) ∧ (gb242 ≠ s_.2) ∧ (s_.2 ≠ gb242) ∧ (Below w.heap.size w w')) ?_ ?_
                                 rotate_left
                                 · intro hJ0_10
                                   refine join_ (σ := Value × Nat) 9 #[false, true, false, true, true, false, false, false, false, false, true, false, false] (fun s_ => [(55, s_.1), (8, .pointer (some ⟨s_.2, 0, none⟩))]) (fun s_ w' => (w'.cell? ⟨gb238, 0, none⟩ = some (.int .i64 t235) ∧ w'.cell? ⟨gb238, 1, none⟩ = some (.int .i64 t236)) ∧ (Kd.R k26 26 w' w.heap.size (fun k_ => some k_ ≠ (.slice Ao8 t232.length co8 : Value).ownBlock ∧ k_ ≠ gb238 ∧ k_ ≠ gb242 ∧ k_ ≠ s_.2) s_.1 y249) ∧ (Kd.R k26 26 w' w.heap.size (fun k_ => some k_ ≠ (s_.1 : Value).ownBlock ∧ k_ ≠ gb238 ∧ k_ ≠ gb242 ∧ k_ ≠ s_.2) (.slice Ao8 t232.length co8) t232) ∧ (w'.heap[gb238]? = some (.cells #[.int .i64 t235, .int .i64 t236] 26 (0, 0))) ∧ (w'.heap[gb242]? = some (.cells #[.int .i64 t239, .int .i64 t240] 26 (0, 0))) ∧ (w'.heap[s_.2]? = some (.cells #[.int .i64 0, .int .i64 0] 26 (0, 0))) ∧ (w.heap.size ≤ s_.2) ∧ (w.heap.size ≤ s_.2) ∧ (gb238 ≠ s_.2) ∧ (s_.2 ≠ gb238) ∧ (gb242 ≠ s_.2) ∧ (s_.2 ≠ gb242) ∧ (Below w.heap.size w w')) ?_ ?_
                                   rotate_left
                                   · intro hJ4_10
                                     refine join_ (σ := Value) 10 #[true, true, false, true, false, false, false, false, false, false, false, false, false] (fun s_ => [(51, s_)]) (fun s_ w' => (w'.cell? ⟨gb238, 0, none⟩ = some (.int .i64 t235) ∧ w'.cell? ⟨gb238, 1, none⟩ = some (.int .i64 t236)) ∧ (Kd.R k26 26 w' w.heap.size (fun k_ => some k_ ≠ (.slice Ao8 t232.length co8 : Value).ownBlock ∧ k_ ≠ gb238 ∧ k_ ≠ gb242) s_ y243) ∧ (Kd.R k26 26 w' w.heap.size (fun k_ => some k_ ≠ (s_ : Value).ownBlock ∧ k_ ≠ gb238 ∧ k_ ≠ gb242) (.slice Ao8 t232.length co8) t232) ∧ (w'.heap[gb238]? = some (.cells #[.int .i64 t235, .int .i64 t236] 26 (0, 0))) ∧ (w'.heap[gb242]? = some (.cells #[.int .i64 t239, .int .i64 t240] 26 (0, 0))) ∧ (Below w.heap.size w w')) ?_ ?_
                                     rotate_left
                                     · intro hJ0
                                       refine join_ (σ := Value) 10 #[false, true, false, true, true, false, false, false, false, false, false, false, false] (fun s_ => [(55, s_)]) (fun s_ w' => (w'.cell? ⟨gb238, 0, none⟩ = some (.int .i64 t235) ∧ w'.cell? ⟨gb238, 1, none⟩ = some (.int .i64 t236)) ∧ (Kd.R k26 26 w' w.heap.size (fun k_ => some k_ ≠ (.slice Ao8 t232.length co8 : Value).ownBlock ∧ k_ ≠ gb238 ∧ k_ ≠ gb242) s_ y249) ∧ (Kd.R k26 26 w' w.heap.size (fun k_ => some k_ ≠ (s_ : Value).ownBlock ∧ k_ ≠ gb238 ∧ k_ ≠ gb242) (.slice Ao8 t232.length co8) t232) ∧ (w'.heap[gb238]? = some (.cells #[.int .i64 t235, .int .i64 t236] 26 (0, 0))) ∧ (w'.heap[gb242]? = some (.cells #[.int .i64 t239, .int .i64 t240] 26 (0, 0))) ∧ (Below w.heap.size w w')) ?_ ?_
                                       rotate_left
                                       · intro hJ4
                                         refine join_ (σ := Nat) 10 #[false, true, false, true, false, false, false, false, false, false, true, false, false] (fun s_ => [(8, .pointer (some ⟨s_, 0, none⟩))]) (fun s_ w' => (w'.cell? ⟨gb238, 0, none⟩ = some (.int .i64 t235) ∧ w'.cell? ⟨gb238, 1, none⟩ = some (.int .i64 t236)) ∧ (Kd.R k26 26 w' w.heap.size (fun k_ => k_ ≠ gb238 ∧ k_ ≠ gb242 ∧ k_ ≠ s_) (.slice Ao8 t232.length co8) t232) ∧ (w'.heap[gb238]? = some (.cells #[.int .i64 t235, .int .i64 t236] 26 (0, 0))) ∧ (w'.heap[gb242]? = some (.cells #[.int .i64 t239, .int .i64 t240] 26 (0, 0))) ∧ (w'.heap[s_]? = some (.cells #[.int .i64 0, .int .i64 0] 26 (0, 0))) ∧ (w.heap.size ≤ s_) ∧ (w.heap.size ≤ s_) ∧ (gb238 ≠ s_) ∧ (s_ ≠ gb238) ∧ (gb242 ≠ s_) ∧ (s_ ≠ gb242) ∧ (Below w.heap.size w w')) ?_ ?_
                                         rotate_left
                                         · intro hJ10
                                           refine three_ (i := 0) (j := 4) (k := 10) (Ni := some 51) (Nj := some 55) (Nk := some 8) #[true, true, false, true, false, false, false, false, false, false, false, false, false] #[false, true, false, true, true, false, false, false, false, false, false, false, false] #[false, true, false, true, false, false, false, false, false, false, true, false, false] rfl rfl rfl rfl rfl rfl (three_of HT_.out (by kernel_rfl)) (by decide) (by decide) (by decide) (fun K hK => ?_) (fun K hK => ?_) (fun K hK => ?_)
                                           · skip
                                             refine Kd.R_lit_step k26 _ 26 ?hg (N := 51) ?hd (xs := ([] : List (S26))) (inner := []) (ok := fun _ => True) (okp := fun _ => True) ?hr ?hp (fun _ hk => hk) trivial (Below.refl _ _) (Nat.le_refl _) (by simp) ?_; (case hd => rfl); (case hg => rfl); (case hr => first | (go_simp; done) | (go_simp; rfl)); (case hp => exact (Reps.none _ _))
                                             intro v244 w38 ho39 hb hg_ hnew_
                                             clear hg_ hnew_
                                             (first | rw [← Ny243.out] at ho39 | (simp only [Int.reduceToNat] at ho39; rw [← Ny243.out] at ho39))
                                             have n0_ := Aside0.mk (Kd.R_elder' (by (with_reducible repeat (first | apply Kd.R_alloc | apply Kd.R_drewN | apply Kd.R_drew)); exact HO_3.out) (Kd.R_base ho39) hb)
                                             have n1_ := Aside0.mk (Kd.R_lower (Kd.R_newB (Kd.R_newB (Kd.R_new' ho39 (Kd.R_lt (by (with_reducible repeat (first | apply Kd.R_alloc | apply Kd.R_drewN | apply Kd.R_drew)); exact HO_3.out))) (g := gb238) (o := .cells #[.int .i64 t235, .int .i64 t236] 26 (0, 0)) (by (with_reducible repeat (first | apply blk_drewN | apply blk_drew | apply blk_alloc)); exact BK238.out)) (g := gb242) (o := .cells #[.int .i64 t239, .int .i64 t240] 26 (0, 0)) (by (with_reducible repeat (first | apply blk_drewN | apply blk_drew | apply blk_alloc)); exact BK242.out)) (below_size (by repeat (first | (with_reducible first | exact HB.out | apply below_alloc | apply pw_below_drewN | apply below_drew1 | refine below_set ?_ GE238.out | refine below_set ?_ GE242.out) | exact HB.out))))
                                             have n2_ := Aside0.mk (blk_below (g := gb238) (o := .cells #[.int .i64 t235, .int .i64 t236] 26 (0, 0)) (by (with_reducible repeat (first | apply blk_drewN | apply blk_drew | apply blk_alloc)); exact BK238.out) hb)
                                             have n3_ := Aside0.mk (blk_below (g := gb242) (o := .cells #[.int .i64 t239, .int .i64 t240] 26 (0, 0)) (by (with_reducible repeat (first | apply blk_drewN | apply blk_drew | apply blk_alloc)); exact BK242.out) hb)
                                             have n4_ := Aside0.mk (below_step (by repeat (first | (with_reducible first | exact HB.out | apply below_alloc | apply pw_below_drewN | apply below_drew1 | refine below_set ?_ GE238.out | refine below_set ?_ GE242.out) | exact HB.out)) hb)
                                             clear HO_3
                                             clear BK238
                                             clear BK242
                                             clear HB
                                             have HO_3 := n0_
                                             have HO245 := n1_
                                             have BK238 := n2_
                                             have BK242 := n3_
                                             have HB := n4_
                                             clear n0_ n1_ n2_ n3_ n4_
                                             clear hb ho39
                                             refine hK.out _ _ ⟨(blk_cell BK238.out 0).trans rfl, (blk_cell BK238.out 1).trans rfl⟩ (fun hHeld => ?_)
                                             clear hK K
                                             refine norm_ (a' := ?_) ?_ ?_
                                             rotate_left
                                             · show Act.put _ (some 51) _ = _
                                               simp only [Act.put, List.setIfInBounds_toArray, List.set_cons_zero, List.set_cons_succ, i64_w, i32_w]
                                               rfl
                                             exact norm_ (by first | (simp only [putAll, Act.put, List.setIfInBounds_toArray, List.set_cons_zero, List.set_cons_succ]; done) | (simp only [putAll, Act.put, List.setIfInBounds_toArray, List.set_cons_zero, List.set_cons_succ]; rfl)) (hJ0 (v244) _ ⟨hHeld, (by (with_reducible repeat (first | apply Kd.R_alloc | apply Kd.R_drewN | apply Kd.R_drew)); exact Kd.R_mono HO245.out (fun _ hk => ⟨hk.1.1.2, ⟨hk.1.2, hk.2⟩⟩)), (by (with_reducible repeat (first | apply Kd.R_alloc | apply Kd.R_drewN | apply Kd.R_drew)); exact Kd.R_mono HO_3.out (fun _ hk => ⟨hk.2, ⟨hk.1.1, hk.1.2⟩⟩)), (by (with_reducible repeat (first | apply blk_drewN | apply blk_drew | apply blk_alloc)); exact BK238.out), (by (with_reducible repeat (first | apply blk_drewN | apply blk_drew | apply blk_alloc)); exact BK242.out), (by repeat (first | (with_reducible first | exact HB.out | apply below_alloc | apply pw_below_drewN | apply below_drew1 | refine below_set ?_ GE238.out | refine below_set ?_ GE242.out) | exact HB.out))⟩)
                                           · skip
                                             refine Kd.R_lit_step k26 _ 26 ?hg (N := 55) ?hd (xs := ([(⟨t235, t236⟩ : S26)] : List (S26))) (inner := [.int .i64 t235, .int .i64 t236]) (ok := fun _ => True) (okp := fun _ => True) ?hr ?hp (fun _ hk => hk) trivial (Below.refl _ _) (Nat.le_refl _) (by simp) ?_; (case hd => rfl); (case hg => rfl); (case hr => first | (go_simp; done) | (go_simp; rfl)); (case hp => exact (Reps.c2 (show Kd.M k26 _ _ _ (⟨t235, t236⟩ : S26) [.int .i64 t235, .int .i64 t236] from (k26_mkM _ _ _ (⟨t235, t236⟩ : S26) )) (Reps.none _ _)))
                                             intro v250 w38 ho39 hb hg_ hnew_
                                             clear hg_ hnew_
                                             (first | rw [← Ny249.out] at ho39 | (simp only [Int.reduceToNat] at ho39; rw [← Ny249.out] at ho39))
                                             have n0_ := Aside0.mk (Kd.R_elder' (by (with_reducible repeat (first | apply Kd.R_alloc | apply Kd.R_drewN | apply Kd.R_drew)); exact HO_3.out) (Kd.R_base ho39) hb)
                                             have n1_ := Aside0.mk (Kd.R_lower (Kd.R_newB (Kd.R_newB (Kd.R_new' ho39 (Kd.R_lt (by (with_reducible repeat (first | apply Kd.R_alloc | apply Kd.R_drewN | apply Kd.R_drew)); exact HO_3.out))) (g := gb238) (o := .cells #[.int .i64 t235, .int .i64 t236] 26 (0, 0)) (by (with_reducible repeat (first | apply blk_drewN | apply blk_drew | apply blk_alloc)); exact BK238.out)) (g := gb242) (o := .cells #[.int .i64 t239, .int .i64 t240] 26 (0, 0)) (by (with_reducible repeat (first | apply blk_drewN | apply blk_drew | apply blk_alloc)); exact BK242.out)) (below_size (by repeat (first | (with_reducible first | exact HB.out | apply below_alloc | apply pw_below_drewN | apply below_drew1 | refine below_set ?_ GE238.out | refine below_set ?_ GE242.out) | exact HB.out))))
                                             have n2_ := Aside0.mk (blk_below (g := gb238) (o := .cells #[.int .i64 t235, .int .i64 t236] 26 (0, 0)) (by (with_reducible repeat (first | apply blk_drewN | apply blk_drew | apply blk_alloc)); exact BK238.out) hb)
                                             have n3_ := Aside0.mk (blk_below (g := gb242) (o := .cells #[.int .i64 t239, .int .i64 t240] 26 (0, 0)) (by (with_reducible repeat (first | apply blk_drewN | apply blk_drew | apply blk_alloc)); exact BK242.out) hb)
                                             have n4_ := Aside0.mk (below_step (by repeat (first | (with_reducible first | exact HB.out | apply below_alloc | apply pw_below_drewN | apply below_drew1 | refine below_set ?_ GE238.out | refine below_set ?_ GE242.out) | exact HB.out)) hb)
                                             clear HO_3
                                             clear BK238
                                             clear BK242
                                             clear HB
                                             have HO_3 := n0_
                                             have HO251 := n1_
                                             have BK238 := n2_
                                             have BK242 := n3_
                                             have HB := n4_
                                             clear n0_ n1_ n2_ n3_ n4_
                                             clear hb ho39
                                             refine hK.out _ _ ⟨(blk_cell BK238.out 0).trans rfl, (blk_cell BK238.out 1).trans rfl⟩ (fun hHeld => ?_)
                                             clear hK K
                                             refine norm_ (a' := ?_) ?_ ?_
                                             rotate_left
                                             · show Act.put _ (some 55) _ = _
                                               simp only [Act.put, List.setIfInBounds_toArray, List.set_cons_zero, List.set_cons_succ, i64_w, i32_w]
                                               rfl
                                             exact norm_ (by first | (simp only [putAll, Act.put, List.setIfInBounds_toArray, List.set_cons_zero, List.set_cons_succ]; done) | (simp only [putAll, Act.put, List.setIfInBounds_toArray, List.set_cons_zero, List.set_cons_succ]; rfl)) (hJ4 (v250) _ ⟨hHeld, (by (with_reducible repeat (first | apply Kd.R_alloc | apply Kd.R_drewN | apply Kd.R_drew)); exact Kd.R_mono HO251.out (fun _ hk => ⟨hk.1.1.2, ⟨hk.1.2, hk.2⟩⟩)), (by (with_reducible repeat (first | apply Kd.R_alloc | apply Kd.R_drewN | apply Kd.R_drew)); exact Kd.R_mono HO_3.out (fun _ hk => ⟨hk.2, ⟨hk.1.1, hk.1.2⟩⟩)), (by (with_reducible repeat (first | apply blk_drewN | apply blk_drew | apply blk_alloc)); exact BK238.out), (by (with_reducible repeat (first | apply blk_drewN | apply blk_drew | apply blk_alloc)); exact BK242.out), (by repeat (first | (with_reducible first | exact HB.out | apply below_alloc | apply pw_below_drewN | apply below_drew1 | refine below_set ?_ GE238.out | refine below_set ?_ GE242.out) | exact HB.out))⟩)
                                           · skip
                                             refine box_step ?hg (N := 8) ?hd (cs := #[.int .i64 0, .int .i64 0]) (t := 26) ?hr ?_; (case hd => rfl); (case hg => rfl); (case hr => first | (go_simp; done) | (go_simp; rfl))
                                             intro gb258 hg w38 hbox hb
                                             have n0_ := Aside0.mk (Kd.R_below (Kd.R_elderB (by (with_reducible repeat (first | apply Kd.R_alloc | apply Kd.R_drewN | apply Kd.R_drew)); exact HO_3.out) gb258 (Nat.le_of_eq hg.symm)) hb)
                                             have n1_ := Aside0.mk (blk_below (g := gb238) (o := .cells #[.int .i64 t235, .int .i64 t236] 26 (0, 0)) (by (with_reducible repeat (first | apply blk_drewN | apply blk_drew | apply blk_alloc)); exact BK238.out) hb)
                                             have n2_ := Aside0.mk (blk_below (g := gb242) (o := .cells #[.int .i64 t239, .int .i64 t240] 26 (0, 0)) (by (with_reducible repeat (first | apply blk_drewN | apply blk_drew | apply blk_alloc)); exact BK242.out) hb)
                                             have n3_ := Aside0.mk (below_step (by repeat (first | (with_reducible first | exact HB.out | apply below_alloc | apply pw_below_drewN | apply below_drew1 | refine below_set ?_ GE238.out | refine below_set ?_ GE242.out) | exact HB.out)) hb)
                                             have n4_ := Aside0.mk (hbox)
                                             have n5_ := Aside0.mk ((by rw [hg]; exact (below_size (by repeat (first | (with_reducible first | exact HB.out | apply below_alloc | apply pw_below_drewN | apply below_drew1 | refine below_set ?_ GE238.out | refine below_set ?_ GE242.out) | exact HB.out))) : w.heap.size ≤ gb258))
                                             have n6_ := Aside0.mk ((by rw [hg]; exact (below_size (by repeat (first | (with_reducible first | exact HB.out | apply below_alloc | apply pw_below_drewN | apply below_drew1 | refine below_set ?_ GE238.out | refine below_set ?_ GE242.out) | exact HB.out))) : w.heap.size ≤ gb258))
                                             have n7_ := Aside0.mk ((by rw [hg]; exact Nat.ne_of_lt (blk_lt (g := gb238) (o := .cells #[.int .i64 t235, .int .i64 t236] 26 (0, 0)) (by (with_reducible repeat (first | apply blk_drewN | apply blk_drew | apply blk_alloc)); exact BK238.out)) : gb238 ≠ gb258))
                                             have n8_ := Aside0.mk ((by rw [hg]; exact Nat.ne_of_gt (blk_lt (g := gb238) (o := .cells #[.int .i64 t235, .int .i64 t236] 26 (0, 0)) (by (with_reducible repeat (first | apply blk_drewN | apply blk_drew | apply blk_alloc)); exact BK238.out)) : gb258 ≠ gb238))
                                             have n9_ := Aside0.mk ((by rw [hg]; exact Nat.ne_of_lt (blk_lt (g := gb242) (o := .cells #[.int .i64 t239, .int .i64 t240] 26 (0, 0)) (by (with_reducible repeat (first | apply blk_drewN | apply blk_drew | apply blk_alloc)); exact BK242.out)) : gb242 ≠ gb258))
                                             have n10_ := Aside0.mk ((by rw [hg]; exact Nat.ne_of_gt (blk_lt (g := gb242) (o := .cells #[.int .i64 t239, .int .i64 t240] 26 (0, 0)) (by (with_reducible repeat (first | apply blk_drewN | apply blk_drew | apply blk_alloc)); exact BK242.out)) : gb258 ≠ gb242))
                                             clear HO_3
                                             clear BK238
                                             clear BK242
                                             clear HB
                                             have HO_3 := n0_
                                             have BK238 := n1_
                                             have BK242 := n2_
                                             have HB := n3_
                                             have BK258 := n4_
                                             have GW258 := n5_
                                             have GE258 := n6_
                                             have NB238_258 := n7_
                                             have NB258_238 := n8_
                                             have NB242_258 := n9_
                                             have NB258_242 := n10_
                                             clear n0_ n1_ n2_ n3_ n4_ n5_ n6_ n7_ n8_ n9_ n10_
                                             clear hb hbox hg
                                             refine hK.out _ _ ⟨(blk_cell BK238.out 0).trans rfl, (blk_cell BK238.out 1).trans rfl⟩ (fun hHeld => ?_)
                                             clear hK K
                                             refine norm_ (a' := ?_) ?_ ?_
                                             rotate_left
                                             · show Act.put _ (some 8) _ = _
                                               simp only [Act.put, List.setIfInBounds_toArray, List.set_cons_zero, List.set_cons_succ, i64_w, i32_w]
                                               rfl
                                             exact norm_ (by first | (simp only [putAll, Act.put, List.setIfInBounds_toArray, List.set_cons_zero, List.set_cons_succ]; done) | (simp only [putAll, Act.put, List.setIfInBounds_toArray, List.set_cons_zero, List.set_cons_succ]; rfl)) (hJ10 (gb258) _ ⟨hHeld, (by (with_reducible repeat (first | apply Kd.R_alloc | apply Kd.R_drewN | apply Kd.R_drew)); exact Kd.R_mono HO_3.out (fun _ hk => ⟨hk.1.1, ⟨hk.1.2, hk.2⟩⟩)), (by (with_reducible repeat (first | apply blk_drewN | apply blk_drew | apply blk_alloc)); exact BK238.out), (by (with_reducible repeat (first | apply blk_drewN | apply blk_drew | apply blk_alloc)); exact BK242.out), (by (with_reducible repeat (first | apply blk_drewN | apply blk_drew | apply blk_alloc)); exact BK258.out), GW258.out, GE258.out, NB238_258.out, NB258_238.out, NB242_258.out, NB258_242.out, (by repeat (first | (with_reducible first | exact HB.out | apply below_alloc | apply pw_below_drewN | apply below_drew1 | refine below_set ?_ GE238.out | refine below_set ?_ GE242.out | refine below_set ?_ GE258.out) | exact HB.out))⟩)
                                         · skip
                                           rintro gb258 w39 ⟨hS_, h0_, h1_, h2_, h3_, h4_, h5_, h6_, h7_, h8_, h9_, h10_⟩
                                           have n0_ : Aside0 (Kd.R k26 26 w39 w.heap.size (fun k_ => k_ ≠ gb238 ∧ k_ ≠ gb242 ∧ k_ ≠ gb258) (.slice Ao8 t232.length co8) t232) := ⟨h0_⟩
                                           have n1_ : Aside0 (w39.heap[gb238]? = some (.cells #[.int .i64 t235, .int .i64 t236] 26 (0, 0))) := ⟨h1_⟩
                                           have n2_ : Aside0 (w39.heap[gb242]? = some (.cells #[.int .i64 t239, .int .i64 t240] 26 (0, 0))) := ⟨h2_⟩
                                           have n3_ : Aside0 (w39.heap[gb258]? = some (.cells #[.int .i64 0, .int .i64 0] 26 (0, 0))) := ⟨h3_⟩
                                           have n4_ : Aside0 (w.heap.size ≤ gb258) := ⟨h4_⟩
                                           have n5_ : Aside0 (w.heap.size ≤ gb258) := ⟨h5_⟩
                                           have n6_ : Aside0 (gb238 ≠ gb258) := ⟨h6_⟩
                                           have n7_ : Aside0 (gb258 ≠ gb238) := ⟨h7_⟩
                                           have n8_ : Aside0 (gb242 ≠ gb258) := ⟨h8_⟩
                                           have n9_ : Aside0 (gb258 ≠ gb242) := ⟨h9_⟩
                                           have n10_ : Aside0 (Below w.heap.size w w39) := ⟨h10_⟩
                                           clear HO_3
                                           clear BK238
                                           clear BK242
                                           clear HB
                                           clear h0_ h1_ h2_ h3_ h4_ h5_ h6_ h7_ h8_ h9_ h10_
                                           have HO_3 := n0_
                                           have BK238 := n1_
                                           have BK242 := n2_
                                           have BK258 := n3_
                                           have GW258 := n4_
                                           have GE258 := n5_
                                           have NB238_258 := n6_
                                           have NB258_238 := n7_
                                           have NB242_258 := n8_
                                           have NB258_242 := n9_
                                           have HB := n10_
                                           clear n0_ n1_ n2_ n3_ n4_ n5_ n6_ n7_ n8_ n9_ n10_
                                           have hHeld : w39.cell? ⟨gb238, 0, none⟩ = some (.int .i64 t235) ∧ w39.cell? ⟨gb238, 1, none⟩ = some (.int .i64 t236) := hS_
                                           refine norm_ (a' := ?_) ?_ ?_
                                           rotate_left
                                           · simp only [putAll, Act.put, List.setIfInBounds_toArray, List.set_cons_zero, List.set_cons_succ]
                                             rfl
                                           refine two_ (i := 0) (j := 4) (Ni := some 51) (Nj := some 55) #[true, true, false, true, false, false, false, false, false, false, true, false, false] #[false, true, false, true, true, false, false, false, false, false, true, false, false] rfl rfl rfl rfl (two_of HT_.out (by kernel_rfl)) (by decide) (by decide) (fun K hK => ?_) (fun K hK => ?_)
                                           · skip
                                             refine Kd.R_lit_step k26 _ 26 ?hg (N := 51) ?hd (xs := ([] : List (S26))) (inner := []) (ok := fun _ => True) (okp := fun _ => True) ?hr ?hp (fun _ hk => hk) trivial (Below.refl _ _) (Nat.le_refl _) (by simp) ?_; (case hd => rfl); (case hg => rfl); (case hr => first | (go_simp; done) | (go_simp; rfl)); (case hp => exact (Reps.none _ _))
                                             intro v244 w40 ho41 hb hg_ hnew_
                                             clear hg_ hnew_
                                             (first | rw [← Ny243.out] at ho41 | (simp only [Int.reduceToNat] at ho41; rw [← Ny243.out] at ho41))
                                             have n0_ := Aside0.mk (Kd.R_elder' (by (with_reducible repeat (first | apply Kd.R_alloc | apply Kd.R_drewN | apply Kd.R_drew)); exact HO_3.out) (Kd.R_base ho41) hb)
                                             have n1_ := Aside0.mk (Kd.R_lower (Kd.R_newB (Kd.R_newB (Kd.R_newB (Kd.R_new' ho41 (Kd.R_lt (by (with_reducible repeat (first | apply Kd.R_alloc | apply Kd.R_drewN | apply Kd.R_drew)); exact HO_3.out))) (g := gb238) (o := .cells #[.int .i64 t235, .int .i64 t236] 26 (0, 0)) (by (with_reducible repeat (first | apply blk_drewN | apply blk_drew | apply blk_alloc)); exact BK238.out)) (g := gb242) (o := .cells #[.int .i64 t239, .int .i64 t240] 26 (0, 0)) (by (with_reducible repeat (first | apply blk_drewN | apply blk_drew | apply blk_alloc)); exact BK242.out)) (g := gb258) (o := .cells #[.int .i64 0, .int .i64 0] 26 (0, 0)) (by (with_reducible repeat (first | apply blk_drewN | apply blk_drew | apply blk_alloc)); exact BK258.out)) (below_size (by repeat (first | (with_reducible first | exact HB.out | apply below_alloc | apply pw_below_drewN | apply below_drew1 | refine below_set ?_ GE238.out | refine below_set ?_ GE242.out | refine below_set ?_ GE258.out) | exact HB.out))))
                                             have n2_ := Aside0.mk (blk_below (g := gb238) (o := .cells #[.int .i64 t235, .int .i64 t236] 26 (0, 0)) (by (with_reducible repeat (first | apply blk_drewN | apply blk_drew | apply blk_alloc)); exact BK238.out) hb)
                                             have n3_ := Aside0.mk (blk_below (g := gb242) (o := .cells #[.int .i64 t239, .int .i64 t240] 26 (0, 0)) (by (with_reducible repeat (first | apply blk_drewN | apply blk_drew | apply blk_alloc)); exact BK242.out) hb)
                                             have n4_ := Aside0.mk (blk_below (g := gb258) (o := .cells #[.int .i64 0, .int .i64 0] 26 (0, 0)) (by (with_reducible repeat (first | apply blk_drewN | apply blk_drew | apply blk_alloc)); exact BK258.out) hb)
                                             have n5_ := Aside0.mk (below_step (by repeat (first | (with_reducible first | exact HB.out | apply below_alloc | apply pw_below_drewN | apply below_drew1 | refine below_set ?_ GE238.out | refine below_set ?_ GE242.out | refine below_set ?_ GE258.out) | exact HB.out)) hb)
                                             clear HO_3
                                             clear BK238
                                             clear BK242
                                             clear BK258
                                             clear HB
                                             have HO_3 := n0_
                                             have HO245 := n1_
                                             have BK238 := n2_
                                             have BK242 := n3_
                                             have BK258 := n4_
                                             have HB := n5_
                                             clear n0_ n1_ n2_ n3_ n4_ n5_
                                             clear hb ho41
                                             refine hK.out _ _ ⟨(blk_cell BK238.out 0).trans rfl, (blk_cell BK238.out 1).trans rfl⟩ (fun hHeld => ?_)
                                             clear hK K
                                             refine norm_ (a' := ?_) ?_ ?_
                                             rotate_left
                                             · show Act.put _ (some 51) _ = _
                                               simp only [Act.put, List.setIfInBounds_toArray, List.set_cons_zero, List.set_cons_succ, i64_w, i32_w]
                                               rfl
                                             exact norm_ (by first | (simp only [putAll, Act.put, List.setIfInBounds_toArray, List.set_cons_zero, List.set_cons_succ]; done) | (simp only [putAll, Act.put, List.setIfInBounds_toArray, List.set_cons_zero, List.set_cons_succ]; rfl)) (hJ0_10 (v244, gb258) _ ⟨hHeld, (by (with_reducible repeat (first | apply Kd.R_alloc | apply Kd.R_drewN | apply Kd.R_drew)); exact Kd.R_mono HO245.out (fun _ hk => ⟨hk.1.1.1.2, ⟨hk.1.1.2, ⟨hk.1.2, hk.2⟩⟩⟩)), (by (with_reducible repeat (first | apply Kd.R_alloc | apply Kd.R_drewN | apply Kd.R_drew)); exact Kd.R_mono HO_3.out (fun _ hk => ⟨hk.2, ⟨hk.1.1, ⟨hk.1.2.1, hk.1.2.2⟩⟩⟩)), (by (with_reducible repeat (first | apply blk_drewN | apply blk_drew | apply blk_alloc)); exact BK238.out), (by (with_reducible repeat (first | apply blk_drewN | apply blk_drew | apply blk_alloc)); exact BK242.out), (by (with_reducible repeat (first | apply blk_drewN | apply blk_drew | apply blk_alloc)); exact BK258.out), GW258.out, GE258.out, NB238_258.out, NB258_238.out, NB242_258.out, NB258_242.out, (by repeat (first | (with_reducible first | exact HB.out | apply below_alloc | apply pw_below_drewN | apply below_drew1 | refine below_set ?_ GE238.out | refine below_set ?_ GE242.out | refine below_set ?_ GE258.out) | exact HB.out))⟩)
                                           · skip
                                             refine Kd.R_lit_step k26 _ 26 ?hg (N := 55) ?hd (xs := ([(⟨t235, t236⟩ : S26)] : List (S26))) (inner := [.int .i64 t235, .int .i64 t236]) (ok := fun _ => True) (okp := fun _ => True) ?hr ?hp (fun _ hk => hk) trivial (Below.refl _ _) (Nat.le_refl _) (by simp) ?_; (case hd => rfl); (case hg => rfl); (case hr => first | (go_simp; done) | (go_simp; rfl)); (case hp => exact (Reps.c2 (show Kd.M k26 _ _ _ (⟨t235, t236⟩ : S26) [.int .i64 t235, .int .i64 t236] from (k26_mkM _ _ _ (⟨t235, t236⟩ : S26) )) (Reps.none _ _)))
                                             intro v250 w40 ho41 hb hg_ hnew_
                                             clear hg_ hnew_
                                             (first | rw [← Ny249.out] at ho41 | (simp only [Int.reduceToNat] at ho41; rw [← Ny249.out] at ho41))
                                             have n0_ := Aside0.mk (Kd.R_elder' (by (with_reducible repeat (first | apply Kd.R_alloc | apply Kd.R_drewN | apply Kd.R_drew)); exact HO_3.out) (Kd.R_base ho41) hb)
                                             have n1_ := Aside0.mk (Kd.R_lower (Kd.R_newB (Kd.R_newB (Kd.R_newB (Kd.R_new' ho41 (Kd.R_lt (by (with_reducible repeat (first | apply Kd.R_alloc | apply Kd.R_drewN | apply Kd.R_drew)); exact HO_3.out))) (g := gb238) (o := .cells #[.int .i64 t235, .int .i64 t236] 26 (0, 0)) (by (with_reducible repeat (first | apply blk_drewN | apply blk_drew | apply blk_alloc)); exact BK238.out)) (g := gb242) (o := .cells #[.int .i64 t239, .int .i64 t240] 26 (0, 0)) (by (with_reducible repeat (first | apply blk_drewN | apply blk_drew | apply blk_alloc)); exact BK242.out)) (g := gb258) (o := .cells #[.int .i64 0, .int .i64 0] 26 (0, 0)) (by (with_reducible repeat (first | apply blk_drewN | apply blk_drew | apply blk_alloc)); exact BK258.out)) (below_size (by repeat (first | (with_reducible first | exact HB.out | apply below_alloc | apply pw_below_drewN | apply below_drew1 | refine below_set ?_ GE238.out | refine below_set ?_ GE242.out | refine below_set ?_ GE258.out) | exact HB.out))))
                                             have n2_ := Aside0.mk (blk_below (g := gb238) (o := .cells #[.int .i64 t235, .int .i64 t236] 26 (0, 0)) (by (with_reducible repeat (first | apply blk_drewN | apply blk_drew | apply blk_alloc)); exact BK238.out) hb)
                                             have n3_ := Aside0.mk (blk_below (g := gb242) (o := .cells #[.int .i64 t239, .int .i64 t240] 26 (0, 0)) (by (with_reducible repeat (first | apply blk_drewN | apply blk_drew | apply blk_alloc)); exact BK242.out) hb)
                                             have n4_ := Aside0.mk (blk_below (g := gb258) (o := .cells #[.int .i64 0, .int .i64 0] 26 (0, 0)) (by (with_reducible repeat (first | apply blk_drewN | apply blk_drew | apply blk_alloc)); exact BK258.out) hb)
                                             have n5_ := Aside0.mk (below_step (by repeat (first | (with_reducible first | exact HB.out | apply below_alloc | apply pw_below_drewN | apply below_drew1 | refine below_set ?_ GE238.out | refine below_set ?_ GE242.out | refine below_set ?_ GE258.out) | exact HB.out)) hb)
                                             clear HO_3
                                             clear BK238
                                             clear BK242
                                             clear BK258
                                             clear HB
                                             have HO_3 := n0_
                                             have HO251 := n1_
                                             have BK238 := n2_
                                             have BK242 := n3_
                                             have BK258 := n4_
                                             have HB := n5_
                                             clear n0_ n1_ n2_ n3_ n4_ n5_
                                             clear hb ho41
                                             refine hK.out _ _ ⟨(blk_cell BK238.out 0).trans rfl, (blk_cell BK238.out 1).trans rfl⟩ (fun hHeld => ?_)
                                             clear hK K
                                             refine norm_ (a' := ?_) ?_ ?_
                                             rotate_left
                                             · show Act.put _ (some 55) _ = _
                                               simp only [Act.put, List.setIfInBounds_toArray, List.set_cons_zero, List.set_cons_succ, i64_w, i32_w]
                                               rfl
                                             exact norm_ (by first | (simp only [putAll, Act.put, List.setIfInBounds_toArray, List.set_cons_zero, List.set_cons_succ]; done) | (simp only [putAll, Act.put, List.setIfInBounds_toArray, List.set_cons_zero, List.set_cons_succ]; rfl)) (hJ4_10 (v250, gb258) _ ⟨hHeld, (by (with_reducible repeat (first | apply Kd.R_alloc | apply Kd.R_drewN | apply Kd.R_drew)); exact Kd.R_mono HO251.out (fun _ hk => ⟨hk.1.1.1.2, ⟨hk.1.1.2, ⟨hk.1.2, hk.2⟩⟩⟩)), (by (with_reducible repeat (first | apply Kd.R_alloc | apply Kd.R_drewN | apply Kd.R_drew)); exact Kd.R_mono HO_3.out (fun _ hk => ⟨hk.2, ⟨hk.1.1, ⟨hk.1.2.1, hk.1.2.2⟩⟩⟩)), (by (with_reducible repeat (first | apply blk_drewN | apply blk_drew | apply blk_alloc)); exact BK238.out), (by (with_reducible repeat (first | apply blk_drewN | apply blk_drew | apply blk_alloc)); exact BK242.out), (by (with_reducible repeat (first | apply blk_drewN | apply blk_drew | apply blk_alloc)); exact BK258.out), GW258.out, GE258.out, NB238_258.out, NB258_238.out, NB242_258.out, NB258_242.out, (by repeat (first | (with_reducible first | exact HB.out | apply below_alloc | apply pw_below_drewN | apply below_drew1 | refine below_set ?_ GE238.out | refine below_set ?_ GE242.out | refine below_set ?_ GE258.out) | exact HB.out))⟩)
                                       · skip
                                         rintro v250 w40 ⟨hS_, h0_, h1_, h2_, h3_, h4_⟩
                                         have n0_ : Aside0 (Kd.R k26 26 w40 w.heap.size (fun k_ => some k_ ≠ (.slice Ao8 t232.length co8 : Value).ownBlock ∧ k_ ≠ gb238 ∧ k_ ≠ gb242) v250 y249) := ⟨h0_⟩
                                         have n1_ : Aside0 (Kd.R k26 26 w40 w.heap.size (fun k_ => some k_ ≠ (v250 : Value).ownBlock ∧ k_ ≠ gb238 ∧ k_ ≠ gb242) (.slice Ao8 t232.length co8) t232) := ⟨h1_⟩
                                         have n2_ : Aside0 (w40.heap[gb238]? = some (.cells #[.int .i64 t235, .int .i64 t236] 26 (0, 0))) := ⟨h2_⟩
                                         have n3_ : Aside0 (w40.heap[gb242]? = some (.cells #[.int .i64 t239, .int .i64 t240] 26 (0, 0))) := ⟨h3_⟩
                                         have n4_ : Aside0 (Below w.heap.size w w40) := ⟨h4_⟩
                                         clear HO_3
                                         clear BK238
                                         clear BK242
                                         clear HB
                                         clear h0_ h1_ h2_ h3_ h4_
                                         have HO251 := n0_
                                         have HO_3 := n1_
                                         have BK238 := n2_
                                         have BK242 := n3_
                                         have HB := n4_
                                         clear n0_ n1_ n2_ n3_ n4_
                                         have hHeld : w40.cell? ⟨gb238, 0, none⟩ = some (.int .i64 t235) ∧ w40.cell? ⟨gb238, 1, none⟩ = some (.int .i64 t236) := hS_
                                         refine norm_ (a' := ?_) ?_ ?_
                                         rotate_left
                                         · simp only [putAll, Act.put, List.setIfInBounds_toArray, List.set_cons_zero, List.set_cons_succ]
                                           rfl
                                         refine two_ (i := 0) (j := 10) (Ni := some 51) (Nj := some 8) #[true, true, false, true, true, false, false, false, false, false, false, false, false] #[false, true, false, true, true, false, false, false, false, false, true, false, false] rfl rfl rfl rfl (two_of HT_.out (by kernel_rfl)) (by decide) (by decide) (fun K hK => ?_) (fun K hK => ?_)
                                         · skip
                                           refine Kd.R_lit_step k26 _ 26 ?hg (N := 51) ?hd (xs := ([] : List (S26))) (inner := []) (ok := fun _ => True) (okp := fun _ => True) ?hr ?hp (fun _ hk => hk) trivial (Below.refl _ _) (Nat.le_refl _) (by simp) ?_; (case hd => rfl); (case hg => rfl); (case hr => first | (go_simp; done) | (go_simp; rfl)); (case hp => exact (Reps.none _ _))
                                           intro v244 w41 ho42 hb hg_ hnew_
                                           clear hg_ hnew_
                                           (first | rw [← Ny243.out] at ho42 | (simp only [Int.reduceToNat] at ho42; rw [← Ny243.out] at ho42))
                                           have n0_ := Aside0.mk (Kd.R_elder' (by (with_reducible repeat (first | apply Kd.R_alloc | apply Kd.R_drewN | apply Kd.R_drew)); exact HO_3.out) (Kd.R_base ho42) hb)
                                           have n1_ := Aside0.mk (Kd.R_elder' (by (with_reducible repeat (first | apply Kd.R_alloc | apply Kd.R_drewN | apply Kd.R_drew)); exact HO251.out) (Kd.R_base ho42) hb)
                                           have n2_ := Aside0.mk (Kd.R_lower (Kd.R_newB (Kd.R_newB (Kd.R_new' (Kd.R_new' ho42 (Kd.R_lt (by (with_reducible repeat (first | apply Kd.R_alloc | apply Kd.R_drewN | apply Kd.R_drew)); exact HO_3.out))) (Kd.R_lt (by (with_reducible repeat (first | apply Kd.R_alloc | apply Kd.R_drewN | apply Kd.R_drew)); exact HO251.out))) (g := gb238) (o := .cells #[.int .i64 t235, .int .i64 t236] 26 (0, 0)) (by (with_reducible repeat (first | apply blk_drewN | apply blk_drew | apply blk_alloc)); exact BK238.out)) (g := gb242) (o := .cells #[.int .i64 t239, .int .i64 t240] 26 (0, 0)) (by (with_reducible repeat (first | apply blk_drewN | apply blk_drew | apply blk_alloc)); exact BK242.out)) (below_size (by repeat (first | (with_reducible first | exact HB.out | apply below_alloc | apply pw_below_drewN | apply below_drew1 | refine below_set ?_ GE238.out | refine below_set ?_ GE242.out) | exact HB.out))))
                                           have n3_ := Aside0.mk (blk_below (g := gb238) (o := .cells #[.int .i64 t235, .int .i64 t236] 26 (0, 0)) (by (with_reducible repeat (first | apply blk_drewN | apply blk_drew | apply blk_alloc)); exact BK238.out) hb)
                                           have n4_ := Aside0.mk (blk_below (g := gb242) (o := .cells #[.int .i64 t239, .int .i64 t240] 26 (0, 0)) (by (with_reducible repeat (first | apply blk_drewN | apply blk_drew | apply blk_alloc)); exact BK242.out) hb)
                                           have n5_ := Aside0.mk (below_step (by repeat (first | (with_reducible first | exact HB.out | apply below_alloc | apply pw_below_drewN | apply below_drew1 | refine below_set ?_ GE238.out | refine below_set ?_ GE242.out) | exact HB.out)) hb)
                                           clear HO_3
                                           clear HO251
                                           clear BK238
                                           clear BK242
                                           clear HB
                                           have HO_3 := n0_
                                           have HO251 := n1_
                                           have HO245 := n2_
                                           have BK238 := n3_
                                           have BK242 := n4_
                                           have HB := n5_
                                           clear n0_ n1_ n2_ n3_ n4_ n5_
                                           clear hb ho42
                                           refine hK.out _ _ ⟨(blk_cell BK238.out 0).trans rfl, (blk_cell BK238.out 1).trans rfl⟩ (fun hHeld => ?_)
                                           clear hK K
                                           refine norm_ (a' := ?_) ?_ ?_
                                           rotate_left
                                           · show Act.put _ (some 51) _ = _
                                             simp only [Act.put, List.setIfInBounds_toArray, List.set_cons_zero, List.set_cons_succ, i64_w, i32_w]
                                             rfl
                                           exact norm_ (by first | (simp only [putAll, Act.put, List.setIfInBounds_toArray, List.set_cons_zero, List.set_cons_succ]; done) | (simp only [putAll, Act.put, List.setIfInBounds_toArray, List.set_cons_zero, List.set_cons_succ]; rfl)) (hJ0_4 (v244, v250) _ ⟨hHeld, (by (with_reducible repeat (first | apply Kd.R_alloc | apply Kd.R_drewN | apply Kd.R_drew)); exact Kd.R_mono HO245.out (fun _ hk => ⟨hk.1.1.2, ⟨hk.1.1.1.2, ⟨hk.1.2, hk.2⟩⟩⟩)), (by (with_reducible repeat (first | apply Kd.R_alloc | apply Kd.R_drewN | apply Kd.R_drew)); exact Kd.R_mono HO251.out (fun _ hk => ⟨hk.2, ⟨hk.1.1, ⟨hk.1.2.1, hk.1.2.2⟩⟩⟩)), (by (with_reducible repeat (first | apply Kd.R_alloc | apply Kd.R_drewN | apply Kd.R_drew)); exact Kd.R_mono HO_3.out (fun _ hk => ⟨hk.2, ⟨hk.1.1, ⟨hk.1.2.1, hk.1.2.2⟩⟩⟩)), (by (with_reducible repeat (first | apply blk_drewN | apply blk_drew | apply blk_alloc)); exact BK238.out), (by (with_reducible repeat (first | apply blk_drewN | apply blk_drew | apply blk_alloc)); exact BK242.out), (by repeat (first | (with_reducible first | exact HB.out | apply below_alloc | apply pw_below_drewN | apply below_drew1 | refine below_set ?_ GE238.out | refine below_set ?_ GE242.out) | exact HB.out))⟩)
                                         · skip
                                           refine box_step ?hg (N := 8) ?hd (cs := #[.int .i64 0, .int .i64 0]) (t := 26) ?hr ?_; (case hd => rfl); (case hg => rfl); (case hr => first | (go_simp; done) | (go_simp; rfl))
                                           intro gb258 hg w41 hbox hb
                                           have n0_ := Aside0.mk (Kd.R_below (Kd.R_elderB (by (with_reducible repeat (first | apply Kd.R_alloc | apply Kd.R_drewN | apply Kd.R_drew)); exact HO_3.out) gb258 (Nat.le_of_eq hg.symm)) hb)
                                           have n1_ := Aside0.mk (Kd.R_below (Kd.R_elderB (by (with_reducible repeat (first | apply Kd.R_alloc | apply Kd.R_drewN | apply Kd.R_drew)); exact HO251.out) gb258 (Nat.le_of_eq hg.symm)) hb)
                                           have n2_ := Aside0.mk (blk_below (g := gb238) (o := .cells #[.int .i64 t235, .int .i64 t236] 26 (0, 0)) (by (with_reducible repeat (first | apply blk_drewN | apply blk_drew | apply blk_alloc)); exact BK238.out) hb)
                                           have n3_ := Aside0.mk (blk_below (g := gb242) (o := .cells #[.int .i64 t239, .int .i64 t240] 26 (0, 0)) (by (with_reducible repeat (first | apply blk_drewN | apply blk_drew | apply blk_alloc)); exact BK242.out) hb)
                                           have n4_ := Aside0.mk (below_step (by repeat (first | (with_reducible first | exact HB.out | apply below_alloc | apply pw_below_drewN | apply below_drew1 | refine below_set ?_ GE238.out | refine below_set ?_ GE242.out) | exact HB.out)) hb)
                                           have n5_ := Aside0.mk (hbox)
                                           have n6_ := Aside0.mk ((by rw [hg]; exact (below_size (by repeat (first | (with_reducible first | exact HB.out | apply below_alloc | apply pw_below_drewN | apply below_drew1 | refine below_set ?_ GE238.out | refine below_set ?_ GE242.out) | exact HB.out))) : w.heap.size ≤ gb258))
                                           have n7_ := Aside0.mk ((by rw [hg]; exact (below_size (by repeat (first | (with_reducible first | exact HB.out | apply below_alloc | apply pw_below_drewN | apply below_drew1 | refine below_set ?_ GE238.out | refine below_set ?_ GE242.out) | exact HB.out))) : w.heap.size ≤ gb258))
                                           have n8_ := Aside0.mk ((by rw [hg]; exact Nat.ne_of_lt (blk_lt (g := gb238) (o := .cells #[.int .i64 t235, .int .i64 t236] 26 (0, 0)) (by (with_reducible repeat (first | apply blk_drewN | apply blk_drew | apply blk_alloc)); exact BK238.out)) : gb238 ≠ gb258))
                                           have n9_ := Aside0.mk ((by rw [hg]; exact Nat.ne_of_gt (blk_lt (g := gb238) (o := .cells #[.int .i64 t235, .int .i64 t236] 26 (0, 0)) (by (with_reducible repeat (first | apply blk_drewN | apply blk_drew | apply blk_alloc)); exact BK238.out)) : gb258 ≠ gb238))
                                           have n10_ := Aside0.mk ((by rw [hg]; exact Nat.ne_of_lt (blk_lt (g := gb242) (o := .cells #[.int .i64 t239, .int .i64 t240] 26 (0, 0)) (by (with_reducible repeat (first | apply blk_drewN | apply blk_drew | apply blk_alloc)); exact BK242.out)) : gb242 ≠ gb258))
                                           have n11_ := Aside0.mk ((by rw [hg]; exact Nat.ne_of_gt (blk_lt (g := gb242) (o := .cells #[.int .i64 t239, .int .i64 t240] 26 (0, 0)) (by (with_reducible repeat (first | apply blk_drewN | apply blk_drew | apply blk_alloc)); exact BK242.out)) : gb258 ≠ gb242))
                                           clear HO_3
                                           clear HO251
                                           clear BK238
                                           clear BK242
                                           clear HB
                                           have HO_3 := n0_
                                           have HO251 := n1_
                                           have BK238 := n2_
                                           have BK242 := n3_
                                           have HB := n4_
                                           have BK258 := n5_
                                           have GW258 := n6_
                                           have GE258 := n7_
                                           have NB238_258 := n8_
                                           have NB258_238 := n9_
                                           have NB242_258 := n10_
                                           have NB258_242 := n11_
                                           clear n0_ n1_ n2_ n3_ n4_ n5_ n6_ n7_ n8_ n9_ n10_ n11_
                                           clear hb hbox hg
                                           refine hK.out _ _ ⟨(blk_cell BK238.out 0).trans rfl, (blk_cell BK238.out 1).trans rfl⟩ (fun hHeld => ?_)
                                           clear hK K
                                           refine norm_ (a' := ?_) ?_ ?_
                                           rotate_left
                                           · show Act.put _ (some 8) _ = _
                                             simp only [Act.put, List.setIfInBounds_toArray, List.set_cons_zero, List.set_cons_succ, i64_w, i32_w]
                                             rfl
                                           exact norm_ (by first | (simp only [putAll, Act.put, List.setIfInBounds_toArray, List.set_cons_zero, List.set_cons_succ]; done) | (simp only [putAll, Act.put, List.setIfInBounds_toArray, List.set_cons_zero, List.set_cons_succ]; rfl)) (hJ4_10 (v250, gb258) _ ⟨hHeld, (by (with_reducible repeat (first | apply Kd.R_alloc | apply Kd.R_drewN | apply Kd.R_drew)); exact Kd.R_mono HO251.out (fun _ hk => ⟨hk.1.1, ⟨hk.1.2.1, ⟨hk.1.2.2, hk.2⟩⟩⟩)), (by (with_reducible repeat (first | apply Kd.R_alloc | apply Kd.R_drewN | apply Kd.R_drew)); exact Kd.R_mono HO_3.out (fun _ hk => ⟨hk.1.1, ⟨hk.1.2.1, ⟨hk.1.2.2, hk.2⟩⟩⟩)), (by (with_reducible repeat (first | apply blk_drewN | apply blk_drew | apply blk_alloc)); exact BK238.out), (by (with_reducible repeat (first | apply blk_drewN | apply blk_drew | apply blk_alloc)); exact BK242.out), (by (with_reducible repeat (first | apply blk_drewN | apply blk_drew | apply blk_alloc)); exact BK258.out), GW258.out, GE258.out, NB238_258.out, NB258_238.out, NB242_258.out, NB258_242.out, (by repeat (first | (with_reducible first | exact HB.out | apply below_alloc | apply pw_below_drewN | apply below_drew1 | refine below_set ?_ GE238.out | refine below_set ?_ GE242.out | refine below_set ?_ GE258.out) | exact HB.out))⟩)
                                     · skip
                                       rintro v244 w40 ⟨hS_, h0_, h1_, h2_, h3_, h4_⟩
                                       have n0_ : Aside0 (Kd.R k26 26 w40 w.heap.size (fun k_ => some k_ ≠ (.slice Ao8 t232.length co8 : Value).ownBlock ∧ k_ ≠ gb238 ∧ k_ ≠ gb242) v244 y243) := ⟨h0_⟩
                                       have n1_ : Aside0 (Kd.R k26 26 w40 w.heap.size (fun k_ => some k_ ≠ (v244 : Value).ownBlock ∧ k_ ≠ gb238 ∧ k_ ≠ gb242) (.slice Ao8 t232.length co8) t232) := ⟨h1_⟩
                                       have n2_ : Aside0 (w40.heap[gb238]? = some (.cells #[.int .i64 t235, .int .i64 t236] 26 (0, 0))) := ⟨h2_⟩
                                       have n3_ : Aside0 (w40.heap[gb242]? = some (.cells #[.int .i64 t239, .int .i64 t240] 26 (0, 0))) := ⟨h3_⟩
                                       have n4_ : Aside0 (Below w.heap.size w w40) := ⟨h4_⟩
                                       clear HO_3
                                       clear BK238
                                       clear BK242
                                       clear HB
                                       clear h0_ h1_ h2_ h3_ h4_
                                       have HO245 := n0_
                                       have HO_3 := n1_
                                       have BK238 := n2_
                                       have BK242 := n3_
                                       have HB := n4_
                                       clear n0_ n1_ n2_ n3_ n4_
                                       have hHeld : w40.cell? ⟨gb238, 0, none⟩ = some (.int .i64 t235) ∧ w40.cell? ⟨gb238, 1, none⟩ = some (.int .i64 t236) := hS_
                                       refine norm_ (a' := ?_) ?_ ?_
                                       rotate_left
                                       · simp only [putAll, Act.put, List.setIfInBounds_toArray, List.set_cons_zero, List.set_cons_succ]
                                         rfl
                                       refine three_ (i := 2) (j := 4) (k := 10) (Ni := some 53) (Nj := some 55) (Nk := some 8) #[true, true, true, true, false, false, false, false, false, false, false, false, false] #[true, true, false, true, true, false, false, false, false, false, false, false, false] #[true, true, false, true, false, false, false, false, false, false, true, false, false] rfl rfl rfl rfl rfl rfl (three_of HT_.out (by kernel_rfl)) (by decide) (by decide) (by decide) (fun K hK => ?_) (fun K hK => ?_) (fun K hK => ?_)
                                       · skip
                                         refine Kd.R_append_rows_step k26 (w0 := w) w.heap.size (by rfl) (.tmp 51) (.tmp 52) 23 26 (.agg #[(.int .i64 0), (.int .i64 0)]) 16 rfl Try.underlying23 info26 rfl (by decide) (by omega) v244 y243 t232 _ _ _ (fun k_ => some k_ ≠ (.slice Ao8 t232.length co8 : Value).ownBlock ∧ k_ ≠ gb238 ∧ k_ ≠ gb242) (fun _ => False) rfl rfl ?aO ?aR (fun _ _ h => h) (fun _ h => h.elim) ?aF ?aB ?aS ?aL ?_
                                         (case aR => repeat (first | exact (Kd.R_reads' HO_3.out).2.2 | (with_reducible refine Kd.C_alloc ?_ _) | (with_reducible refine Kd.C_drewN ?_ _) | (with_reducible refine Kd.C_drew ?_)))
                                         (case aB => exact (by repeat (first | (with_reducible first | exact HB.out | apply below_alloc | apply pw_below_drewN | apply below_drew1 | refine below_set ?_ GE238.out | refine below_set ?_ GE242.out) | exact HB.out)))
                                         (case aF => exact (fun k_ hk => ⟨Kd.fresh' (Kd.R_lt (by (with_reducible repeat (first | apply Kd.R_alloc | apply Kd.R_drewN | apply Kd.R_drew)); exact HO_3.out)) k_ hk, Kd.freshB (g := gb238) (o := .cells #[.int .i64 t235, .int .i64 t236] 26 (0, 0)) (by (with_reducible repeat (first | apply blk_drewN | apply blk_drew | apply blk_alloc)); exact BK238.out) k_ hk, Kd.freshB (g := gb242) (o := .cells #[.int .i64 t239, .int .i64 t240] 26 (0, 0)) (by (with_reducible repeat (first | apply blk_drewN | apply blk_drew | apply blk_alloc)); exact BK242.out) k_ hk⟩))
                                         (case aO => exact (by (with_reducible repeat (first | apply Kd.R_alloc | apply Kd.R_drewN | apply Kd.R_drew)); exact HO245.out))
                                         (case aS => exact (below_size (by repeat (first | (with_reducible first | exact HB.out | apply below_alloc | apply pw_below_drewN | apply below_drew1 | refine below_set ?_ GE238.out | refine below_set ?_ GE242.out) | exact HB.out))))
                                         (case aL => have := LMc33.out; omega)
                                         intro v247 w41 ho hb hg hat
                                         rw [← Ny246.out] at ho
                                         have n0_ := Aside0.mk (Kd.R_after (ok := (fun k_ => k_ ≠ gb238 ∧ k_ ≠ gb242)) (by (with_reducible repeat (first | apply Kd.R_alloc | apply Kd.R_drewN | apply Kd.R_drew)); exact Kd.R_mono HO_3.out (fun _ hk => ⟨⟨hk.2.1, hk.2.2⟩, hk.1⟩)) hg hat)
                                         have n1_ := Aside0.mk (blk_grown (g := gb238) (o := .cells #[.int .i64 t235, .int .i64 t236] 26 (0, 0)) (by (with_reducible repeat (first | apply blk_drewN | apply blk_drew | apply blk_alloc)); exact BK238.out) hg (Kd.R_away HO245.out (fun _ hk => hk.2.1)))
                                         have n2_ := Aside0.mk (blk_grown (g := gb242) (o := .cells #[.int .i64 t239, .int .i64 t240] 26 (0, 0)) (by (with_reducible repeat (first | apply blk_drewN | apply blk_drew | apply blk_alloc)); exact BK242.out) hg (Kd.R_away HO245.out (fun _ hk => hk.2.2)))
                                         have n3_ := Aside0.mk (hb)
                                         have n4_ := Aside0.mk (ho)
                                         clear HO_3
                                         clear BK238
                                         clear BK242
                                         clear HB
                                         clear HO245
                                         have HO_3 := n0_
                                         have BK238 := n1_
                                         have BK242 := n2_
                                         have HB := n3_
                                         have HO248 := n4_
                                         clear n0_ n1_ n2_ n3_ n4_
                                         clear ho hb hg hat
                                         refine hK.out _ _ ⟨(blk_cell BK238.out 0).trans rfl, (blk_cell BK238.out 1).trans rfl⟩ (fun hHeld => ?_)
                                         clear hK K
                                         refine norm_ (a' := ?_) ?_ ?_
                                         rotate_left
                                         · show Act.put _ (some 53) _ = _
                                           simp only [Act.put, List.setIfInBounds_toArray, List.set_cons_zero, List.set_cons_succ, i64_w, i32_w]
                                           rfl
                                         exact norm_ (by first | (simp only [putAll, Act.put, List.setIfInBounds_toArray, List.set_cons_zero, List.set_cons_succ]; done) | (simp only [putAll, Act.put, List.setIfInBounds_toArray, List.set_cons_zero, List.set_cons_succ]; rfl)) (hJ0_2 (v244, v247) _ ⟨hHeld, (by (with_reducible repeat (first | apply Kd.R_alloc | apply Kd.R_drewN | apply Kd.R_drew)); exact HO248.out), (by (with_reducible repeat (first | apply Kd.R_alloc | apply Kd.R_drewN | apply Kd.R_drew)); exact Kd.R_mono HO_3.out (fun _ hk => ⟨hk.2, ⟨hk.1.1, hk.1.2⟩⟩)), (by (with_reducible repeat (first | apply blk_drewN | apply blk_drew | apply blk_alloc)); exact BK238.out), (by (with_reducible repeat (first | apply blk_drewN | apply blk_drew | apply blk_alloc)); exact BK242.out), (by repeat (first | (with_reducible first | exact HB.out | apply below_alloc | apply pw_below_drewN | apply below_drew1 | refine below_set ?_ GE238.out | refine below_set ?_ GE242.out) | exact HB.out))⟩)
                                       · skip
                                         refine Kd.R_lit_step k26 _ 26 ?hg (N := 55) ?hd (xs := ([(⟨t235, t236⟩ : S26)] : List (S26))) (inner := [.int .i64 t235, .int .i64 t236]) (ok := fun _ => True) (okp := fun _ => True) ?hr ?hp (fun _ hk => hk) trivial (Below.refl _ _) (Nat.le_refl _) (by simp) ?_; (case hd => rfl); (case hg => rfl); (case hr => first | (go_simp; done) | (go_simp; rfl)); (case hp => exact (Reps.c2 (show Kd.M k26 _ _ _ (⟨t235, t236⟩ : S26) [.int .i64 t235, .int .i64 t236] from (k26_mkM _ _ _ (⟨t235, t236⟩ : S26) )) (Reps.none _ _)))
                                         intro v250 w41 ho42 hb hg_ hnew_
                                         clear hg_ hnew_
                                         (first | rw [← Ny249.out] at ho42 | (simp only [Int.reduceToNat] at ho42; rw [← Ny249.out] at ho42))
                                         have n0_ := Aside0.mk (Kd.R_elder' (by (with_reducible repeat (first | apply Kd.R_alloc | apply Kd.R_drewN | apply Kd.R_drew)); exact HO_3.out) (Kd.R_base ho42) hb)
                                         have n1_ := Aside0.mk (Kd.R_elder' (by (with_reducible repeat (first | apply Kd.R_alloc | apply Kd.R_drewN | apply Kd.R_drew)); exact HO245.out) (Kd.R_base ho42) hb)
                                         have n2_ := Aside0.mk (Kd.R_lower (Kd.R_newB (Kd.R_newB (Kd.R_new' (Kd.R_new' ho42 (Kd.R_lt (by (with_reducible repeat (first | apply Kd.R_alloc | apply Kd.R_drewN | apply Kd.R_drew)); exact HO_3.out))) (Kd.R_lt (by (with_reducible repeat (first | apply Kd.R_alloc | apply Kd.R_drewN | apply Kd.R_drew)); exact HO245.out))) (g := gb238) (o := .cells #[.int .i64 t235, .int .i64 t236] 26 (0, 0)) (by (with_reducible repeat (first | apply blk_drewN | apply blk_drew | apply blk_alloc)); exact BK238.out)) (g := gb242) (o := .cells #[.int .i64 t239, .int .i64 t240] 26 (0, 0)) (by (with_reducible repeat (first | apply blk_drewN | apply blk_drew | apply blk_alloc)); exact BK242.out)) (below_size (by repeat (first | (with_reducible first | exact HB.out | apply below_alloc | apply pw_below_drewN | apply below_drew1 | refine below_set ?_ GE238.out | refine below_set ?_ GE242.out) | exact HB.out))))
                                         have n3_ := Aside0.mk (blk_below (g := gb238) (o := .cells #[.int .i64 t235, .int .i64 t236] 26 (0, 0)) (by (with_reducible repeat (first | apply blk_drewN | apply blk_drew | apply blk_alloc)); exact BK238.out) hb)
                                         have n4_ := Aside0.mk (blk_below (g := gb242) (o := .cells #[.int .i64 t239, .int .i64 t240] 26 (0, 0)) (by (with_reducible repeat (first | apply blk_drewN | apply blk_drew | apply blk_alloc)); exact BK242.out) hb)
                                         have n5_ := Aside0.mk (below_step (by repeat (first | (with_reducible first | exact HB.out | apply below_alloc | apply pw_below_drewN | apply below_drew1 | refine below_set ?_ GE238.out | refine below_set ?_ GE242.out) | exact HB.out)) hb)
                                         clear HO_3
                                         clear HO245
                                         clear BK238
                                         clear BK242
                                         clear HB
                                         have HO_3 := n0_
                                         have HO245 := n1_
                                         have HO251 := n2_
                                         have BK238 := n3_
                                         have BK242 := n4_
                                         have HB := n5_
                                         clear n0_ n1_ n2_ n3_ n4_ n5_
                                         clear hb ho42
                                         refine hK.out _ _ ⟨(blk_cell BK238.out 0).trans rfl, (blk_cell BK238.out 1).trans rfl⟩ (fun hHeld => ?_)
                                         clear hK K
                                         refine norm_ (a' := ?_) ?_ ?_
                                         rotate_left
                                         · show Act.put _ (some 55) _ = _
                                           simp only [Act.put, List.setIfInBounds_toArray, List.set_cons_zero, List.set_cons_succ, i64_w, i32_w]
                                           rfl
                                         exact norm_ (by first | (simp only [putAll, Act.put, List.setIfInBounds_toArray, List.set_cons_zero, List.set_cons_succ]; done) | (simp only [putAll, Act.put, List.setIfInBounds_toArray, List.set_cons_zero, List.set_cons_succ]; rfl)) (hJ0_4 (v244, v250) _ ⟨hHeld, (by (with_reducible repeat (first | apply Kd.R_alloc | apply Kd.R_drewN | apply Kd.R_drew)); exact Kd.R_mono HO245.out (fun _ hk => ⟨hk.2, ⟨hk.1.1, ⟨hk.1.2.1, hk.1.2.2⟩⟩⟩)), (by (with_reducible repeat (first | apply Kd.R_alloc | apply Kd.R_drewN | apply Kd.R_drew)); exact Kd.R_mono HO251.out (fun _ hk => ⟨hk.1.1.2, ⟨hk.1.1.1.2, ⟨hk.1.2, hk.2⟩⟩⟩)), (by (with_reducible repeat (first | apply Kd.R_alloc | apply Kd.R_drewN | apply Kd.R_drew)); exact Kd.R_mono HO_3.out (fun _ hk => ⟨hk.1.1, ⟨hk.2, ⟨hk.1.2.1, hk.1.2.2⟩⟩⟩)), (by (with_reducible repeat (first | apply blk_drewN | apply blk_drew | apply blk_alloc)); exact BK238.out), (by (with_reducible repeat (first | apply blk_drewN | apply blk_drew | apply blk_alloc)); exact BK242.out), (by repeat (first | (with_reducible first | exact HB.out | apply below_alloc | apply pw_below_drewN | apply below_drew1 | refine below_set ?_ GE238.out | refine below_set ?_ GE242.out) | exact HB.out))⟩)
                                       · skip
                                         refine box_step ?hg (N := 8) ?hd (cs := #[.int .i64 0, .int .i64 0]) (t := 26) ?hr ?_; (case hd => rfl); (case hg => rfl); (case hr => first | (go_simp; done) | (go_simp; rfl))
                                         intro gb258 hg w41 hbox hb
                                         have n0_ := Aside0.mk (Kd.R_below (Kd.R_elderB (by (with_reducible repeat (first | apply Kd.R_alloc | apply Kd.R_drewN | apply Kd.R_drew)); exact HO_3.out) gb258 (Nat.le_of_eq hg.symm)) hb)
                                         have n1_ := Aside0.mk (Kd.R_below (Kd.R_elderB (by (with_reducible repeat (first | apply Kd.R_alloc | apply Kd.R_drewN | apply Kd.R_drew)); exact HO245.out) gb258 (Nat.le_of_eq hg.symm)) hb)
                                         have n2_ := Aside0.mk (blk_below (g := gb238) (o := .cells #[.int .i64 t235, .int .i64 t236] 26 (0, 0)) (by (with_reducible repeat (first | apply blk_drewN | apply blk_drew | apply blk_alloc)); exact BK238.out) hb)
                                         have n3_ := Aside0.mk (blk_below (g := gb242) (o := .cells #[.int .i64 t239, .int .i64 t240] 26 (0, 0)) (by (with_reducible repeat (first | apply blk_drewN | apply blk_drew | apply blk_alloc)); exact BK242.out) hb)
                                         have n4_ := Aside0.mk (below_step (by repeat (first | (with_reducible first | exact HB.out | apply below_alloc | apply pw_below_drewN | apply below_drew1 | refine below_set ?_ GE238.out | refine below_set ?_ GE242.out) | exact HB.out)) hb)
                                         have n5_ := Aside0.mk (hbox)
                                         have n6_ := Aside0.mk ((by rw [hg]; exact (below_size (by repeat (first | (with_reducible first | exact HB.out | apply below_alloc | apply pw_below_drewN | apply below_drew1 | refine below_set ?_ GE238.out | refine below_set ?_ GE242.out) | exact HB.out))) : w.heap.size ≤ gb258))
                                         have n7_ := Aside0.mk ((by rw [hg]; exact (below_size (by repeat (first | (with_reducible first | exact HB.out | apply below_alloc | apply pw_below_drewN | apply below_drew1 | refine below_set ?_ GE238.out | refine below_set ?_ GE242.out) | exact HB.out))) : w.heap.size ≤ gb258))
                                         have n8_ := Aside0.mk ((by rw [hg]; exact Nat.ne_of_lt (blk_lt (g := gb238) (o := .cells #[.int .i64 t235, .int .i64 t236] 26 (0, 0)) (by (with_reducible repeat (first | apply blk_drewN | apply blk_drew | apply blk_alloc)); exact BK238.out)) : gb238 ≠ gb258))
                                         have n9_ := Aside0.mk ((by rw [hg]; exact Nat.ne_of_gt (blk_lt (g := gb238) (o := .cells #[.int .i64 t235, .int .i64 t236] 26 (0, 0)) (by (with_reducible repeat (first | apply blk_drewN | apply blk_drew | apply blk_alloc)); exact BK238.out)) : gb258 ≠ gb238))
                                         have n10_ := Aside0.mk ((by rw [hg]; exact Nat.ne_of_lt (blk_lt (g := gb242) (o := .cells #[.int .i64 t239, .int .i64 t240] 26 (0, 0)) (by (with_reducible repeat (first | apply blk_drewN | apply blk_drew | apply blk_alloc)); exact BK242.out)) : gb242 ≠ gb258))
                                         have n11_ := Aside0.mk ((by rw [hg]; exact Nat.ne_of_gt (blk_lt (g := gb242) (o := .cells #[.int .i64 t239, .int .i64 t240] 26 (0, 0)) (by (with_reducible repeat (first | apply blk_drewN | apply blk_drew | apply blk_alloc)); exact BK242.out)) : gb258 ≠ gb242))
                                         clear HO_3
                                         clear HO245
                                         clear BK238
                                         clear BK242
                                         clear HB
                                         have HO_3 := n0_
                                         have HO245 := n1_
                                         have BK238 := n2_
                                         have BK242 := n3_
                                         have HB := n4_
                                         have BK258 := n5_
                                         have GW258 := n6_
                                         have GE258 := n7_
                                         have NB238_258 := n8_
                                         have NB258_238 := n9_
                                         have NB242_258 := n10_
                                         have NB258_242 := n11_
                                         clear n0_ n1_ n2_ n3_ n4_ n5_ n6_ n7_ n8_ n9_ n10_ n11_
                                         clear hb hbox hg
                                         refine hK.out _ _ ⟨(blk_cell BK238.out 0).trans rfl, (blk_cell BK238.out 1).trans rfl⟩ (fun hHeld => ?_)
                                         clear hK K
                                         refine norm_ (a' := ?_) ?_ ?_
                                         rotate_left
                                         · show Act.put _ (some 8) _ = _
                                           simp only [Act.put, List.setIfInBounds_toArray, List.set_cons_zero, List.set_cons_succ, i64_w, i32_w]
                                           rfl
                                         exact norm_ (by first | (simp only [putAll, Act.put, List.setIfInBounds_toArray, List.set_cons_zero, List.set_cons_succ]; done) | (simp only [putAll, Act.put, List.setIfInBounds_toArray, List.set_cons_zero, List.set_cons_succ]; rfl)) (hJ0_10 (v244, gb258) _ ⟨hHeld, (by (with_reducible repeat (first | apply Kd.R_alloc | apply Kd.R_drewN | apply Kd.R_drew)); exact Kd.R_mono HO245.out (fun _ hk => ⟨hk.1.1, ⟨hk.1.2.1, ⟨hk.1.2.2, hk.2⟩⟩⟩)), (by (with_reducible repeat (first | apply Kd.R_alloc | apply Kd.R_drewN | apply Kd.R_drew)); exact Kd.R_mono HO_3.out (fun _ hk => ⟨hk.1.1, ⟨hk.1.2.1, ⟨hk.1.2.2, hk.2⟩⟩⟩)), (by (with_reducible repeat (first | apply blk_drewN | apply blk_drew | apply blk_alloc)); exact BK238.out), (by (with_reducible repeat (first | apply blk_drewN | apply blk_drew | apply blk_alloc)); exact BK242.out), (by (with_reducible repeat (first | apply blk_drewN | apply blk_drew | apply blk_alloc)); exact BK258.out), GW258.out, GE258.out, NB238_258.out, NB258_238.out, NB242_258.out, NB258_242.out, (by repeat (first | (with_reducible first | exact HB.out | apply below_alloc | apply pw_below_drewN | apply below_drew1 | refine below_set ?_ GE238.out | refine below_set ?_ GE242.out | refine below_set ?_ GE258.out) | exact HB.out))⟩)
                                   · skip
                                     rintro ⟨v250, gb258⟩ w41 ⟨hS_, h0_, h1_, h2_, h3_, h4_, h5_, h6_, h7_, h8_, h9_, h10_, h11_⟩
                                     have n0_ : Aside0 (Kd.R k26 26 w41 w.heap.size (fun k_ => some k_ ≠ (.slice Ao8 t232.length co8 : Value).ownBlock ∧ k_ ≠ gb238 ∧ k_ ≠ gb242 ∧ k_ ≠ gb258) v250 y249) := ⟨h0_⟩
                                     have n1_ : Aside0 (Kd.R k26 26 w41 w.heap.size (fun k_ => some k_ ≠ (v250 : Value).ownBlock ∧ k_ ≠ gb238 ∧ k_ ≠ gb242 ∧ k_ ≠ gb258) (.slice Ao8 t232.length co8) t232) := ⟨h1_⟩
                                     have n2_ : Aside0 (w41.heap[gb238]? = some (.cells #[.int .i64 t235, .int .i64 t236] 26 (0, 0))) := ⟨h2_⟩
                                     have n3_ : Aside0 (w41.heap[gb242]? = some (.cells #[.int .i64 t239, .int .i64 t240] 26 (0, 0))) := ⟨h3_⟩
                                     have n4_ : Aside0 (w41.heap[gb258]? = some (.cells #[.int .i64 0, .int .i64 0] 26 (0, 0))) := ⟨h4_⟩
                                     have n5_ : Aside0 (w.heap.size ≤ gb258) := ⟨h5_⟩
                                     have n6_ : Aside0 (w.heap.size ≤ gb258) := ⟨h6_⟩
                                     have n7_ : Aside0 (gb238 ≠ gb258) := ⟨h7_⟩
                                     have n8_ : Aside0 (gb258 ≠ gb238) := ⟨h8_⟩
                                     have n9_ : Aside0 (gb242 ≠ gb258) := ⟨h9_⟩
                                     have n10_ : Aside0 (gb258 ≠ gb242) := ⟨h10_⟩
                                     have n11_ : Aside0 (Below w.heap.size w w41) := ⟨h11_⟩
                                     clear HO_3
                                     clear BK238
                                     clear BK242
                                     clear HB
                                     clear h0_ h1_ h2_ h3_ h4_ h5_ h6_ h7_ h8_ h9_ h10_ h11_
                                     have HO251 := n0_
                                     have HO_3 := n1_
                                     have BK238 := n2_
                                     have BK242 := n3_
                                     have BK258 := n4_
                                     have GW258 := n5_
                                     have GE258 := n6_
                                     have NB238_258 := n7_
                                     have NB258_238 := n8_
                                     have NB242_258 := n9_
                                     have NB258_242 := n10_
                                     have HB := n11_
                                     clear n0_ n1_ n2_ n3_ n4_ n5_ n6_ n7_ n8_ n9_ n10_ n11_
                                     have hHeld : w41.cell? ⟨gb238, 0, none⟩ = some (.int .i64 t235) ∧ w41.cell? ⟨gb238, 1, none⟩ = some (.int .i64 t236) := hS_
                                     refine norm_ (a' := ?_) ?_ ?_
                                     rotate_left
                                     · simp only [putAll, Act.put, List.setIfInBounds_toArray, List.set_cons_zero, List.set_cons_succ]
                                       rfl
                                     refine one_ (i := 0) (N := some 51) #[true, true, false, true, true, false, false, false, false, false, true, false, false] rfl rfl (one_of HT_.out (by kernel_rfl)) (by decide) (fun K hK => ?_)
                                     refine Kd.R_lit_step k26 _ 26 ?hg (N := 51) ?hd (xs := ([] : List (S26))) (inner := []) (ok := fun _ => True) (okp := fun _ => True) ?hr ?hp (fun _ hk => hk) trivial (Below.refl _ _) (Nat.le_refl _) (by simp) ?_; (case hd => rfl); (case hg => rfl); (case hr => first | (go_simp; done) | (go_simp; rfl)); (case hp => exact (Reps.none _ _))
                                     intro v244 w42 ho43 hb hg_ hnew_
                                     clear hg_ hnew_
                                     (first | rw [← Ny243.out] at ho43 | (simp only [Int.reduceToNat] at ho43; rw [← Ny243.out] at ho43))
                                     have n0_ := Aside0.mk (Kd.R_elder' (by (with_reducible repeat (first | apply Kd.R_alloc | apply Kd.R_drewN | apply Kd.R_drew)); exact HO_3.out) (Kd.R_base ho43) hb)
                                     have n1_ := Aside0.mk (Kd.R_elder' (by (with_reducible repeat (first | apply Kd.R_alloc | apply Kd.R_drewN | apply Kd.R_drew)); exact HO251.out) (Kd.R_base ho43) hb)
                                     have n2_ := Aside0.mk (Kd.R_lower (Kd.R_newB (Kd.R_newB (Kd.R_newB (Kd.R_new' (Kd.R_new' ho43 (Kd.R_lt (by (with_reducible repeat (first | apply Kd.R_alloc | apply Kd.R_drewN | apply Kd.R_drew)); exact HO_3.out))) (Kd.R_lt (by (with_reducible repeat (first | apply Kd.R_alloc | apply Kd.R_drewN | apply Kd.R_drew)); exact HO251.out))) (g := gb238) (o := .cells #[.int .i64 t235, .int .i64 t236] 26 (0, 0)) (by (with_reducible repeat (first | apply blk_drewN | apply blk_drew | apply blk_alloc)); exact BK238.out)) (g := gb242) (o := .cells #[.int .i64 t239, .int .i64 t240] 26 (0, 0)) (by (with_reducible repeat (first | apply blk_drewN | apply blk_drew | apply blk_alloc)); exact BK242.out)) (g := gb258) (o := .cells #[.int .i64 0, .int .i64 0] 26 (0, 0)) (by (with_reducible repeat (first | apply blk_drewN | apply blk_drew | apply blk_alloc)); exact BK258.out)) (below_size (by repeat (first | (with_reducible first | exact HB.out | apply below_alloc | apply pw_below_drewN | apply below_drew1 | refine below_set ?_ GE238.out | refine below_set ?_ GE242.out | refine below_set ?_ GE258.out) | exact HB.out))))
                                     have n3_ := Aside0.mk (blk_below (g := gb238) (o := .cells #[.int .i64 t235, .int .i64 t236] 26 (0, 0)) (by (with_reducible repeat (first | apply blk_drewN | apply blk_drew | apply blk_alloc)); exact BK238.out) hb)
                                     have n4_ := Aside0.mk (blk_below (g := gb242) (o := .cells #[.int .i64 t239, .int .i64 t240] 26 (0, 0)) (by (with_reducible repeat (first | apply blk_drewN | apply blk_drew | apply blk_alloc)); exact BK242.out) hb)
                                     have n5_ := Aside0.mk (blk_below (g := gb258) (o := .cells #[.int .i64 0, .int .i64 0] 26 (0, 0)) (by (with_reducible repeat (first | apply blk_drewN | apply blk_drew | apply blk_alloc)); exact BK258.out) hb)
                                     have n6_ := Aside0.mk (below_step (by repeat (first | (with_reducible first | exact HB.out | apply below_alloc | apply pw_below_drewN | apply below_drew1 | refine below_set ?_ GE238.out | refine below_set ?_ GE242.out | refine below_set ?_ GE258.out) | exact HB.out)) hb)
                                     clear HO_3
                                     clear HO251
                                     clear BK238
                                     clear BK242
                                     clear BK258
                                     clear HB
                                     have HO_3 := n0_
                                     have HO251 := n1_
                                     have HO245 := n2_
                                     have BK238 := n3_
                                     have BK242 := n4_
                                     have BK258 := n5_
                                     have HB := n6_
                                     clear n0_ n1_ n2_ n3_ n4_ n5_ n6_
                                     clear hb ho43
                                     refine hK.out _ _ ⟨(blk_cell BK238.out 0).trans rfl, (blk_cell BK238.out 1).trans rfl⟩ (fun hHeld => ?_)
                                     clear hK K
                                     refine norm_ (a' := ?_) ?_ ?_
                                     rotate_left
                                     · show Act.put _ (some 51) _ = _
                                       simp only [Act.put, List.setIfInBounds_toArray, List.set_cons_zero, List.set_cons_succ, i64_w, i32_w]
                                       rfl
                                     exact norm_ (by first | (simp only [putAll, Act.put, List.setIfInBounds_toArray, List.set_cons_zero, List.set_cons_succ]; done) | (simp only [putAll, Act.put, List.setIfInBounds_toArray, List.set_cons_zero, List.set_cons_succ]; rfl)) (hJ0_4_10 (v244, v250, gb258) _ ⟨hHeld, (by (with_reducible repeat (first | apply Kd.R_alloc | apply Kd.R_drewN | apply Kd.R_drew)); exact Kd.R_mono HO245.out (fun _ hk => ⟨hk.1.1.1.2, ⟨hk.1.1.1.1.2, ⟨hk.1.1.2, ⟨hk.1.2, hk.2⟩⟩⟩⟩)), (by (with_reducible repeat (first | apply Kd.R_alloc | apply Kd.R_drewN | apply Kd.R_drew)); exact Kd.R_mono HO251.out (fun _ hk => ⟨hk.2, ⟨hk.1.1, ⟨hk.1.2.1, ⟨hk.1.2.2.1, hk.1.2.2.2⟩⟩⟩⟩)), (by (with_reducible repeat (first | apply Kd.R_alloc | apply Kd.R_drewN | apply Kd.R_drew)); exact Kd.R_mono HO_3.out (fun _ hk => ⟨hk.2, ⟨hk.1.1, ⟨hk.1.2.1, ⟨hk.1.2.2.1, hk.1.2.2.2⟩⟩⟩⟩)), (by (with_reducible repeat (first | apply blk_drewN | apply blk_drew | apply blk_alloc)); exact BK238.out), (by (with_reducible repeat (first | apply blk_drewN | apply blk_drew | apply blk_alloc)); exact BK242.out), (by (with_reducible repeat (first | apply blk_drewN | apply blk_drew | apply blk_alloc)); exact BK258.out), GW258.out, GE258.out, NB238_258.out, NB258_238.out, NB242_258.out, NB258_242.out, (by repeat (first | (with_reducible first | exact HB.out | apply below_alloc | apply pw_below_drewN | apply below_drew1 | refine below_set ?_ GE238.out | refine below_set ?_ GE242.out | refine below_set ?_ GE258.out) | exact HB.out))⟩)
                                 · skip
                                   rintro ⟨v244, gb258⟩ w41 ⟨hS_, h0_, h1_, h2_, h3_, h4_, h5_, h6_, h7_, h8_, h9_, h10_, h11_⟩
                                   have n0_ : Aside0 (Kd.R k26 26 w41 w.heap.size (fun k_ => some k_ ≠ (.slice Ao8 t232.length co8 : Value).ownBlock ∧ k_ ≠ gb238 ∧ k_ ≠ gb242 ∧ k_ ≠ gb258) v244 y243) := ⟨h0_⟩
                                   have n1_ : Aside0 (Kd.R k26 26 w41 w.heap.size (fun k_ => some k_ ≠ (v244 : Value).ownBlock ∧ k_ ≠ gb238 ∧ k_ ≠ gb242 ∧ k_ ≠ gb258) (.slice Ao8 t232.length co8) t232) := ⟨h1_⟩
                                   have n2_ : Aside0 (w41.heap[gb238]? = some (.cells #[.int .i64 t235, .int .i64 t236] 26 (0, 0))) := ⟨h2_⟩
                                   have n3_ : Aside0 (w41.heap[gb242]? = some (.cells #[.int .i64 t239, .int .i64 t240] 26 (0, 0))) := ⟨h3_⟩
                                   have n4_ : Aside0 (w41.heap[gb258]? = some (.cells #[.int .i64 0, .int .i64 0] 26 (0, 0))) := ⟨h4_⟩
                                   have n5_ : Aside0 (w.heap.size ≤ gb258) := ⟨h5_⟩
                                   have n6_ : Aside0 (w.heap.size ≤ gb258) := ⟨h6_⟩
                                   have n7_ : Aside0 (gb238 ≠ gb258) := ⟨h7_⟩
                                   have n8_ : Aside0 (gb258 ≠ gb238) := ⟨h8_⟩
                                   have n9_ : Aside0 (gb242 ≠ gb258) := ⟨h9_⟩
                                   have n10_ : Aside0 (gb258 ≠ gb242) := ⟨h10_⟩
                                   have n11_ : Aside0 (Below w.heap.size w w41) := ⟨h11_⟩
                                   clear HO_3
                                   clear BK238
                                   clear BK242
                                   clear HB
                                   clear h0_ h1_ h2_ h3_ h4_ h5_ h6_ h7_ h8_ h9_ h10_ h11_
                                   have HO245 := n0_
                                   have HO_3 := n1_
                                   have BK238 := n2_
                                   have BK242 := n3_
                                   have BK258 := n4_
                                   have GW258 := n5_
                                   have GE258 := n6_
                                   have NB238_258 := n7_
                                   have NB258_238 := n8_
                                   have NB242_258 := n9_
                                   have NB258_242 := n10_
                                   have HB := n11_
                                   clear n0_ n1_ n2_ n3_ n4_ n5_ n6_ n7_ n8_ n9_ n10_ n11_
                                   have hHeld : w41.cell? ⟨gb238, 0, none⟩ = some (.int .i64 t235) ∧ w41.cell? ⟨gb238, 1, none⟩ = some (.int .i64 t236) := hS_
                                   refine norm_ (a' := ?_) ?_ ?_
                                   rotate_left
                                   · simp only [putAll, Act.put, List.setIfInBounds_toArray, List.set_cons_zero, List.set_cons_succ]
                                     rfl
                                   refine two_ (i := 2) (j := 4) (Ni := some 53) (Nj := some 55) #[true, true, true, true, false, false, false, false, false, false, true, false, false] #[true, true, false, true, true, false, false, false, false, false, true, false, false] rfl rfl rfl rfl (two_of HT_.out (by kernel_rfl)) (by decide) (by decide) (fun K hK => ?_) (fun K hK => ?_)
                                   · skip
                                     refine Kd.R_append_rows_step k26 (w0 := w) w.heap.size (by rfl) (.tmp 51) (.tmp 52) 23 26 (.agg #[(.int .i64 0), (.int .i64 0)]) 16 rfl Try.underlying23 info26 rfl (by decide) (by omega) v244 y243 t232 _ _ _ (fun k_ => some k_ ≠ (.slice Ao8 t232.length co8 : Value).ownBlock ∧ k_ ≠ gb238 ∧ k_ ≠ gb242 ∧ k_ ≠ gb258) (fun _ => False) rfl rfl ?aO ?aR (fun _ _ h => h) (fun _ h => h.elim) ?aF ?aB ?aS ?aL ?_
                                     (case aR => repeat (first | exact (Kd.R_reads' HO_3.out).2.2 | (with_reducible refine Kd.C_alloc ?_ _) | (with_reducible refine Kd.C_drewN ?_ _) | (with_reducible refine Kd.C_drew ?_)))
                                     (case aB => exact (by repeat (first | (with_reducible first | exact HB.out | apply below_alloc | apply pw_below_drewN | apply below_drew1 | refine below_set ?_ GE238.out | refine below_set ?_ GE242.out | refine below_set ?_ GE258.out) | exact HB.out)))
                                     (case aF => exact (fun k_ hk => ⟨Kd.fresh' (Kd.R_lt (by (with_reducible repeat (first | apply Kd.R_alloc | apply Kd.R_drewN | apply Kd.R_drew)); exact HO_3.out)) k_ hk, Kd.freshB (g := gb238) (o := .cells #[.int .i64 t235, .int .i64 t236] 26 (0, 0)) (by (with_reducible repeat (first | apply blk_drewN | apply blk_drew | apply blk_alloc)); exact BK238.out) k_ hk, Kd.freshB (g := gb242) (o := .cells #[.int .i64 t239, .int .i64 t240] 26 (0, 0)) (by (with_reducible repeat (first | apply blk_drewN | apply blk_drew | apply blk_alloc)); exact BK242.out) k_ hk, Kd.freshB (g := gb258) (o := .cells #[.int .i64 0, .int .i64 0] 26 (0, 0)) (by (with_reducible repeat (first | apply blk_drewN | apply blk_drew | apply blk_alloc)); exact BK258.out) k_ hk⟩))
                                     (case aO => exact (by (with_reducible repeat (first | apply Kd.R_alloc | apply Kd.R_drewN | apply Kd.R_drew)); exact HO245.out))
                                     (case aS => exact (below_size (by repeat (first | (with_reducible first | exact HB.out | apply below_alloc | apply pw_below_drewN | apply below_drew1 | refine below_set ?_ GE238.out | refine below_set ?_ GE242.out | refine below_set ?_ GE258.out) | exact HB.out))))
                                     (case aL => have := LMc33.out; omega)
                                     intro v247 w42 ho hb hg hat
                                     rw [← Ny246.out] at ho
                                     have n0_ := Aside0.mk (Kd.R_after (ok := (fun k_ => k_ ≠ gb238 ∧ k_ ≠ gb242 ∧ k_ ≠ gb258)) (by (with_reducible repeat (first | apply Kd.R_alloc | apply Kd.R_drewN | apply Kd.R_drew)); exact Kd.R_mono HO_3.out (fun _ hk => ⟨⟨hk.2.1, ⟨hk.2.2.1, hk.2.2.2⟩⟩, hk.1⟩)) hg hat)
                                     have n1_ := Aside0.mk (blk_grown (g := gb238) (o := .cells #[.int .i64 t235, .int .i64 t236] 26 (0, 0)) (by (with_reducible repeat (first | apply blk_drewN | apply blk_drew | apply blk_alloc)); exact BK238.out) hg (Kd.R_away HO245.out (fun _ hk => hk.2.1)))
                                     have n2_ := Aside0.mk (blk_grown (g := gb242) (o := .cells #[.int .i64 t239, .int .i64 t240] 26 (0, 0)) (by (with_reducible repeat (first | apply blk_drewN | apply blk_drew | apply blk_alloc)); exact BK242.out) hg (Kd.R_away HO245.out (fun _ hk => hk.2.2.1)))
                                     have n3_ := Aside0.mk (blk_grown (g := gb258) (o := .cells #[.int .i64 0, .int .i64 0] 26 (0, 0)) (by (with_reducible repeat (first | apply blk_drewN | apply blk_drew | apply blk_alloc)); exact BK258.out) hg (Kd.R_away HO245.out (fun _ hk => hk.2.2.2)))
                                     have n4_ := Aside0.mk (hb)
                                     have n5_ := Aside0.mk (ho)
                                     clear HO_3
                                     clear BK238
                                     clear BK242
                                     clear BK258
                                     clear HB
                                     clear HO245
                                     have HO_3 := n0_
                                     have BK238 := n1_
                                     have BK242 := n2_
                                     have BK258 := n3_
                                     have HB := n4_
                                     have HO248 := n5_
                                     clear n0_ n1_ n2_ n3_ n4_ n5_
                                     clear ho hb hg hat
                                     refine hK.out _ _ ⟨(blk_cell BK238.out 0).trans rfl, (blk_cell BK238.out 1).trans rfl⟩ (fun hHeld => ?_)
                                     clear hK K
                                     refine norm_ (a' := ?_) ?_ ?_
                                     rotate_left
                                     · show Act.put _ (some 53) _ = _
                                       simp only [Act.put, List.setIfInBounds_toArray, List.set_cons_zero, List.set_cons_succ, i64_w, i32_w]
                                       rfl
                                     exact norm_ (by first | (simp only [putAll, Act.put, List.setIfInBounds_toArray, List.set_cons_zero, List.set_cons_succ]; done) | (simp only [putAll, Act.put, List.setIfInBounds_toArray, List.set_cons_zero, List.set_cons_succ]; rfl)) (hJ0_2_10 (v244, v247, gb258) _ ⟨hHeld, (by (with_reducible repeat (first | apply Kd.R_alloc | apply Kd.R_drewN | apply Kd.R_drew)); exact HO248.out), (by (with_reducible repeat (first | apply Kd.R_alloc | apply Kd.R_drewN | apply Kd.R_drew)); exact Kd.R_mono HO_3.out (fun _ hk => ⟨hk.2, ⟨hk.1.1, ⟨hk.1.2.1, hk.1.2.2⟩⟩⟩)), (by (with_reducible repeat (first | apply blk_drewN | apply blk_drew | apply blk_alloc)); exact BK238.out), (by (with_reducible repeat (first | apply blk_drewN | apply blk_drew | apply blk_alloc)); exact BK242.out), (by (with_reducible repeat (first | apply blk_drewN | apply blk_drew | apply blk_alloc)); exact BK258.out), GW258.out, GE258.out, NB238_258.out, NB258_238.out, NB242_258.out, NB258_242.out, (by repeat (first | (with_reducible first | exact HB.out | apply below_alloc | apply pw_below_drewN | apply below_drew1 | refine below_set ?_ GE238.out | refine below_set ?_ GE242.out | refine below_set ?_ GE258.out) | exact HB.out))⟩)
                                   · skip
                                     refine Kd.R_lit_step k26 _ 26 ?hg (N := 55) ?hd (xs := ([(⟨t235, t236⟩ : S26)] : List (S26))) (inner := [.int .i64 t235, .int .i64 t236]) (ok := fun _ => True) (okp := fun _ => True) ?hr ?hp (fun _ hk => hk) trivial (Below.refl _ _) (Nat.le_refl _) (by simp) ?_; (case hd => rfl); (case hg => rfl); (case hr => first | (go_simp; done) | (go_simp; rfl)); (case hp => exact (Reps.c2 (show Kd.M k26 _ _ _ (⟨t235, t236⟩ : S26) [.int .i64 t235, .int .i64 t236] from (k26_mkM _ _ _ (⟨t235, t236⟩ : S26) )) (Reps.none _ _)))
                                     intro v250 w42 ho43 hb hg_ hnew_
                                     clear hg_ hnew_
                                     (first | rw [← Ny249.out] at ho43 | (simp only [Int.reduceToNat] at ho43; rw [← Ny249.out] at ho43))
                                     have n0_ := Aside0.mk (Kd.R_elder' (by (with_reducible repeat (first | apply Kd.R_alloc | apply Kd.R_drewN | apply Kd.R_drew)); exact HO_3.out) (Kd.R_base ho43) hb)
                                     have n1_ := Aside0.mk (Kd.R_elder' (by (with_reducible repeat (first | apply Kd.R_alloc | apply Kd.R_drewN | apply Kd.R_drew)); exact HO245.out) (Kd.R_base ho43) hb)
                                     have n2_ := Aside0.mk (Kd.R_lower (Kd.R_newB (Kd.R_newB (Kd.R_newB (Kd.R_new' (Kd.R_new' ho43 (Kd.R_lt (by (with_reducible repeat (first | apply Kd.R_alloc | apply Kd.R_drewN | apply Kd.R_drew)); exact HO_3.out))) (Kd.R_lt (by (with_reducible repeat (first | apply Kd.R_alloc | apply Kd.R_drewN | apply Kd.R_drew)); exact HO245.out))) (g := gb238) (o := .cells #[.int .i64 t235, .int .i64 t236] 26 (0, 0)) (by (with_reducible repeat (first | apply blk_drewN | apply blk_drew | apply blk_alloc)); exact BK238.out)) (g := gb242) (o := .cells #[.int .i64 t239, .int .i64 t240] 26 (0, 0)) (by (with_reducible repeat (first | apply blk_drewN | apply blk_drew | apply blk_alloc)); exact BK242.out)) (g := gb258) (o := .cells #[.int .i64 0, .int .i64 0] 26 (0, 0)) (by (with_reducible repeat (first | apply blk_drewN | apply blk_drew | apply blk_alloc)); exact BK258.out)) (below_size (by repeat (first | (with_reducible first | exact HB.out | apply below_alloc | apply pw_below_drewN | apply below_drew1 | refine below_set ?_ GE238.out | refine below_set ?_ GE242.out | refine below_set ?_ GE258.out) | exact HB.out))))
                                     have n3_ := Aside0.mk (blk_below (g := gb238) (o := .cells #[.int .i64 t235, .int .i64 t236] 26 (0, 0)) (by (with_reducible repeat (first | apply blk_drewN | apply blk_drew | apply blk_alloc)); exact BK238.out) hb)
                                     have n4_ := Aside0.mk (blk_below (g := gb242) (o := .cells #[.int .i64 t239, .int .i64 t240] 26 (0, 0)) (by (with_reducible repeat (first | apply blk_drewN | apply blk_drew | apply blk_alloc)); exact BK242.out) hb)
                                     have n5_ := Aside0.mk (blk_below (g := gb258) (o := .cells #[.int .i64 0, .int .i64 0] 26 (0, 0)) (by (with_reducible repeat (first | apply blk_drewN | apply blk_drew | apply blk_alloc)); exact BK258.out) hb)
                                     have n6_ := Aside0.mk (below_step (by repeat (first | (with_reducible first | exact HB.out | apply below_alloc | apply pw_below_drewN | apply below_drew1 | refine below_set ?_ GE238.out | refine below_set ?_ GE242.out | refine below_set ?_ GE258.out) | exact HB.out)) hb)
                                     clear HO_3
                                     clear HO245
                                     clear BK238
                                     clear BK242
                                     clear BK258
                                     clear HB
                                     have HO_3 := n0_
                                     have HO245 := n1_
                                     have HO251 := n2_
                                     have BK238 := n3_
                                     have BK242 := n4_
                                     have BK258 := n5_
                                     have HB := n6_
                                     clear n0_ n1_ n2_ n3_ n4_ n5_ n6_
                                     clear hb ho43
                                     refine hK.out _ _ ⟨(blk_cell BK238.out 0).trans rfl, (blk_cell BK238.out 1).trans rfl⟩ (fun hHeld => ?_)
                                     clear hK K
                                     refine norm_ (a' := ?_) ?_ ?_
                                     rotate_left
                                     · show Act.put _ (some 55) _ = _
                                       simp only [Act.put, List.setIfInBounds_toArray, List.set_cons_zero, List.set_cons_succ, i64_w, i32_w]
                                       rfl
                                     exact norm_ (by first | (simp only [putAll, Act.put, List.setIfInBounds_toArray, List.set_cons_zero, List.set_cons_succ]; done) | (simp only [putAll, Act.put, List.setIfInBounds_toArray, List.set_cons_zero, List.set_cons_succ]; rfl)) (hJ0_4_10 (v244, v250, gb258) _ ⟨hHeld, (by (with_reducible repeat (first | apply Kd.R_alloc | apply Kd.R_drewN | apply Kd.R_drew)); exact Kd.R_mono HO245.out (fun _ hk => ⟨hk.2, ⟨hk.1.1, ⟨hk.1.2.1, ⟨hk.1.2.2.1, hk.1.2.2.2⟩⟩⟩⟩)), (by (with_reducible repeat (first | apply Kd.R_alloc | apply Kd.R_drewN | apply Kd.R_drew)); exact Kd.R_mono HO251.out (fun _ hk => ⟨hk.1.1.1.2, ⟨hk.1.1.1.1.2, ⟨hk.1.1.2, ⟨hk.1.2, hk.2⟩⟩⟩⟩)), (by (with_reducible repeat (first | apply Kd.R_alloc | apply Kd.R_drewN | apply Kd.R_drew)); exact Kd.R_mono HO_3.out (fun _ hk => ⟨hk.1.1, ⟨hk.2, ⟨hk.1.2.1, ⟨hk.1.2.2.1, hk.1.2.2.2⟩⟩⟩⟩)), (by (with_reducible repeat (first | apply blk_drewN | apply blk_drew | apply blk_alloc)); exact BK238.out), (by (with_reducible repeat (first | apply blk_drewN | apply blk_drew | apply blk_alloc)); exact BK242.out), (by (with_reducible repeat (first | apply blk_drewN | apply blk_drew | apply blk_alloc)); exact BK258.out), GW258.out, GE258.out, NB238_258.out, NB258_238.out, NB242_258.out, NB258_242.out, (by repeat (first | (with_reducible first | exact HB.out | apply below_alloc | apply pw_below_drewN | apply below_drew1 | refine below_set ?_ GE238.out | refine below_set ?_ GE242.out | refine below_set ?_ GE258.out) | exact HB.out))⟩)
                               · skip
                                 rintro ⟨v244, v250⟩ w42 ⟨hS_, h0_, h1_, h2_, h3_, h4_, h5_⟩
                                 have n0_ : Aside0 (Kd.R k26 26 w42 w.heap.size (fun k_ => some k_ ≠ (v250 : Value).ownBlock ∧ some k_ ≠ (.slice Ao8 t232.length co8 : Value).ownBlock ∧ k_ ≠ gb238 ∧ k_ ≠ gb242) v244 y243) := ⟨h0_⟩
                                 have n1_ : Aside0 (Kd.R k26 26 w42 w.heap.size (fun k_ => some k_ ≠ (v244 : Value).ownBlock ∧ some k_ ≠ (.slice Ao8 t232.length co8 : Value).ownBlock ∧ k_ ≠ gb238 ∧ k_ ≠ gb242) v250 y249) := ⟨h1_⟩
                                 have n2_ : Aside0 (Kd.R k26 26 w42 w.heap.size (fun k_ => some k_ ≠ (v244 : Value).ownBlock ∧ some k_ ≠ (v250 : Value).ownBlock ∧ k_ ≠ gb238 ∧ k_ ≠ gb242) (.slice Ao8 t232.length co8) t232) := ⟨h2_⟩
                                 have n3_ : Aside0 (w42.heap[gb238]? = some (.cells #[.int .i64 t235, .int .i64 t236] 26 (0, 0))) := ⟨h3_⟩
                                 have n4_ : Aside0 (w42.heap[gb242]? = some (.cells #[.int .i64 t239, .int .i64 t240] 26 (0, 0))) := ⟨h4_⟩
                                 have n5_ : Aside0 (Below w.heap.size w w42) := ⟨h5_⟩
                                 clear HO_3
                                 clear BK238
                                 clear BK242
                                 clear HB
                                 clear h0_ h1_ h2_ h3_ h4_ h5_
                                 have HO245 := n0_
                                 have HO251 := n1_
                                 have HO_3 := n2_
                                 have BK238 := n3_
                                 have BK242 := n4_
                                 have HB := n5_
                                 clear n0_ n1_ n2_ n3_ n4_ n5_
                                 have hHeld : w42.cell? ⟨gb238, 0, none⟩ = some (.int .i64 t235) ∧ w42.cell? ⟨gb238, 1, none⟩ = some (.int .i64 t236) := hS_
                                 refine norm_ (a' := ?_) ?_ ?_
                                 rotate_left
                                 · simp only [putAll, Act.put, List.setIfInBounds_toArray, List.set_cons_zero, List.set_cons_succ]
                                   rfl
                                 refine two_ (i := 2) (j := 10) (Ni := some 53) (Nj := some 8) #[true, true, true, true, true, false, false, false, false, false, false, false, false] #[true, true, false, true, true, false, false, false, false, false, true, false, false] rfl rfl rfl rfl (two_of HT_.out (by kernel_rfl)) (by decide) (by decide) (fun K hK => ?_) (fun K hK => ?_)
                                 · skip
                                   refine Kd.R_append_rows_step k26 (w0 := w) w.heap.size (by rfl) (.tmp 51) (.tmp 52) 23 26 (.agg #[(.int .i64 0), (.int .i64 0)]) 16 rfl Try.underlying23 info26 rfl (by decide) (by omega) v244 y243 t232 _ _ _ (fun k_ => some k_ ≠ (.slice Ao8 t232.length co8 : Value).ownBlock ∧ some k_ ≠ (v250 : Value).ownBlock ∧ k_ ≠ gb238 ∧ k_ ≠ gb242) (fun _ => False) rfl rfl ?aO ?aR (fun _ _ h => h) (fun _ h => h.elim) ?aF ?aB ?aS ?aL ?_
                                   (case aR => repeat (first | exact (Kd.R_reads' HO_3.out).2.2 | (with_reducible refine Kd.C_alloc ?_ _) | (with_reducible refine Kd.C_drewN ?_ _) | (with_reducible refine Kd.C_drew ?_)))
                                   (case aB => exact (by repeat (first | (with_reducible first | exact HB.out | apply below_alloc | apply pw_below_drewN | apply below_drew1 | refine below_set ?_ GE238.out | refine below_set ?_ GE242.out) | exact HB.out)))
                                   (case aF => exact (fun k_ hk => ⟨Kd.fresh' (Kd.R_lt (by (with_reducible repeat (first | apply Kd.R_alloc | apply Kd.R_drewN | apply Kd.R_drew)); exact HO_3.out)) k_ hk, Kd.fresh' (Kd.R_lt (by (with_reducible repeat (first | apply Kd.R_alloc | apply Kd.R_drewN | apply Kd.R_drew)); exact HO251.out)) k_ hk, Kd.freshB (g := gb238) (o := .cells #[.int .i64 t235, .int .i64 t236] 26 (0, 0)) (by (with_reducible repeat (first | apply blk_drewN | apply blk_drew | apply blk_alloc)); exact BK238.out) k_ hk, Kd.freshB (g := gb242) (o := .cells #[.int .i64 t239, .int .i64 t240] 26 (0, 0)) (by (with_reducible repeat (first | apply blk_drewN | apply blk_drew | apply blk_alloc)); exact BK242.out) k_ hk⟩))
                                   (case aO => exact (by (with_reducible repeat (first | apply Kd.R_alloc | apply Kd.R_drewN | apply Kd.R_drew)); exact Kd.R_mono HO245.out (fun _ hk => ⟨hk.2.1, ⟨hk.1, ⟨hk.2.2.1, hk.2.2.2⟩⟩⟩)))
                                   (case aS => exact (below_size (by repeat (first | (with_reducible first | exact HB.out | apply below_alloc | apply pw_below_drewN | apply below_drew1 | refine below_set ?_ GE238.out | refine below_set ?_ GE242.out) | exact HB.out))))
                                   (case aL => have := LMc33.out; omega)
                                   intro v247 w43 ho hb hg hat
                                   rw [← Ny246.out] at ho
                                   have n0_ := Aside0.mk (Kd.R_after (ok := (fun k_ => some k_ ≠ (v250 : Value).ownBlock ∧ k_ ≠ gb238 ∧ k_ ≠ gb242)) (by (with_reducible repeat (first | apply Kd.R_alloc | apply Kd.R_drewN | apply Kd.R_drew)); exact Kd.R_mono HO_3.out (fun _ hk => ⟨⟨hk.2.1, ⟨hk.2.2.1, hk.2.2.2⟩⟩, hk.1⟩)) hg hat)
                                   have n1_ := Aside0.mk (blk_grown (g := gb238) (o := .cells #[.int .i64 t235, .int .i64 t236] 26 (0, 0)) (by (with_reducible repeat (first | apply blk_drewN | apply blk_drew | apply blk_alloc)); exact BK238.out) hg (Kd.R_away HO245.out (fun _ hk => hk.2.2.1)))
                                   have n2_ := Aside0.mk (blk_grown (g := gb242) (o := .cells #[.int .i64 t239, .int .i64 t240] 26 (0, 0)) (by (with_reducible repeat (first | apply blk_drewN | apply blk_drew | apply blk_alloc)); exact BK242.out) hg (Kd.R_away HO245.out (fun _ hk => hk.2.2.2)))
                                   have n3_ := Aside0.mk (Kd.R_after (ok := (fun k_ => some k_ ≠ (.slice Ao8 t232.length co8 : Value).ownBlock ∧ k_ ≠ gb238 ∧ k_ ≠ gb242)) (by (with_reducible repeat (first | apply Kd.R_alloc | apply Kd.R_drewN | apply Kd.R_drew)); exact Kd.R_mono HO251.out (fun _ hk => ⟨⟨hk.2.1, ⟨hk.2.2.1, hk.2.2.2⟩⟩, hk.1⟩)) hg hat)
                                   have n4_ := Aside0.mk (hb)
                                   have n5_ := Aside0.mk (ho)
                                   clear HO_3
                                   clear BK238
                                   clear BK242
                                   clear HO251
                                   clear HB
                                   clear HO245
                                   have HO_3 := n0_
                                   have BK238 := n1_
                                   have BK242 := n2_
                                   have HO251 := n3_
                                   have HB := n4_
                                   have HO248 := n5_
                                   clear n0_ n1_ n2_ n3_ n4_ n5_
                                   clear ho hb hg hat
                                   refine hK.out _ _ ⟨(blk_cell BK238.out 0).trans rfl, (blk_cell BK238.out 1).trans rfl⟩ (fun hHeld => ?_)
                                   clear hK K
                                   refine norm_ (a' := ?_) ?_ ?_
                                   rotate_left
                                   · show Act.put _ (some 53) _ = _
                                     simp only [Act.put, List.setIfInBounds_toArray, List.set_cons_zero, List.set_cons_succ, i64_w, i32_w]
                                     rfl
                                   exact norm_ (by first | (simp only [putAll, Act.put, List.setIfInBounds_toArray, List.set_cons_zero, List.set_cons_succ]; done) | (simp only [putAll, Act.put, List.setIfInBounds_toArray, List.set_cons_zero, List.set_cons_succ]; rfl)) (hJ0_2_4 (v244, v247, v250) _ ⟨hHeld, (by (with_reducible repeat (first | apply Kd.R_alloc | apply Kd.R_drewN | apply Kd.R_drew)); exact Kd.R_mono HO248.out (fun _ hk => ⟨hk.2.1, ⟨hk.1, ⟨hk.2.2.1, hk.2.2.2⟩⟩⟩)), (by (with_reducible repeat (first | apply Kd.R_alloc | apply Kd.R_drewN | apply Kd.R_drew)); exact Kd.R_mono HO251.out (fun _ hk => ⟨hk.2, ⟨hk.1.1, ⟨hk.1.2.1, hk.1.2.2⟩⟩⟩)), (by (with_reducible repeat (first | apply Kd.R_alloc | apply Kd.R_drewN | apply Kd.R_drew)); exact Kd.R_mono HO_3.out (fun _ hk => ⟨hk.2, ⟨hk.1.1, ⟨hk.1.2.1, hk.1.2.2⟩⟩⟩)), (by (with_reducible repeat (first | apply blk_drewN | apply blk_drew | apply blk_alloc)); exact BK238.out), (by (with_reducible repeat (first | apply blk_drewN | apply blk_drew | apply blk_alloc)); exact BK242.out), (by repeat (first | (with_reducible first | exact HB.out | apply below_alloc | apply pw_below_drewN | apply below_drew1 | refine below_set ?_ GE238.out | refine below_set ?_ GE242.out) | exact HB.out))⟩)
                                 · skip
                                   refine box_step ?hg (N := 8) ?hd (cs := #[.int .i64 0, .int .i64 0]) (t := 26) ?hr ?_; (case hd => rfl); (case hg => rfl); (case hr => first | (go_simp; done) | (go_simp; rfl))
                                   intro gb258 hg w43 hbox hb
                                   have n0_ := Aside0.mk (Kd.R_below (Kd.R_elderB (by (with_reducible repeat (first | apply Kd.R_alloc | apply Kd.R_drewN | apply Kd.R_drew)); exact HO_3.out) gb258 (Nat.le_of_eq hg.symm)) hb)
                                   have n1_ := Aside0.mk (Kd.R_below (Kd.R_elderB (by (with_reducible repeat (first | apply Kd.R_alloc | apply Kd.R_drewN | apply Kd.R_drew)); exact HO245.out) gb258 (Nat.le_of_eq hg.symm)) hb)
                                   have n2_ := Aside0.mk (Kd.R_below (Kd.R_elderB (by (with_reducible repeat (first | apply Kd.R_alloc | apply Kd.R_drewN | apply Kd.R_drew)); exact HO251.out) gb258 (Nat.le_of_eq hg.symm)) hb)
                                   have n3_ := Aside0.mk (blk_below (g := gb238) (o := .cells #[.int .i64 t235, .int .i64 t236] 26 (0, 0)) (by (with_reducible repeat (first | apply blk_drewN | apply blk_drew | apply blk_alloc)); exact BK238.out) hb)
                                   have n4_ := Aside0.mk (blk_below (g := gb242) (o := .cells #[.int .i64 t239, .int .i64 t240] 26 (0, 0)) (by (with_reducible repeat (first | apply blk_drewN | apply blk_drew | apply blk_alloc)); exact BK242.out) hb)
                                   have n5_ := Aside0.mk (below_step (by repeat (first | (with_reducible first | exact HB.out | apply below_alloc | apply pw_below_drewN | apply below_drew1 | refine below_set ?_ GE238.out | refine below_set ?_ GE242.out) | exact HB.out)) hb)
                                   have n6_ := Aside0.mk (hbox)
                                   have n7_ := Aside0.mk ((by rw [hg]; exact (below_size (by repeat (first | (with_reducible first | exact HB.out | apply below_alloc | apply pw_below_drewN | apply below_drew1 | refine below_set ?_ GE238.out | refine below_set ?_ GE242.out) | exact HB.out))) : w.heap.size ≤ gb258))
                                   have n8_ := Aside0.mk ((by rw [hg]; exact (below_size (by repeat (first | (with_reducible first | exact HB.out | apply below_alloc | apply pw_below_drewN | apply below_drew1 | refine below_set ?_ GE238.out | refine below_set ?_ GE242.out) | exact HB.out))) : w.heap.size ≤ gb258))
                                   have n9_ := Aside0.mk ((by rw [hg]; exact Nat.ne_of_lt (blk_lt (g := gb238) (o := .cells #[.int .i64 t235, .int .i64 t236] 26 (0, 0)) (by (with_reducible repeat (first | apply blk_drewN | apply blk_drew | apply blk_alloc)); exact BK238.out)) : gb238 ≠ gb258))
                                   have n10_ := Aside0.mk ((by rw [hg]; exact Nat.ne_of_gt (blk_lt (g := gb238) (o := .cells #[.int .i64 t235, .int .i64 t236] 26 (0, 0)) (by (with_reducible repeat (first | apply blk_drewN | apply blk_drew | apply blk_alloc)); exact BK238.out)) : gb258 ≠ gb238))
                                   have n11_ := Aside0.mk ((by rw [hg]; exact Nat.ne_of_lt (blk_lt (g := gb242) (o := .cells #[.int .i64 t239, .int .i64 t240] 26 (0, 0)) (by (with_reducible repeat (first | apply blk_drewN | apply blk_drew | apply blk_alloc)); exact BK242.out)) : gb242 ≠ gb258))
                                   have n12_ := Aside0.mk ((by rw [hg]; exact Nat.ne_of_gt (blk_lt (g := gb242) (o := .cells #[.int .i64 t239, .int .i64 t240] 26 (0, 0)) (by (with_reducible repeat (first | apply blk_drewN | apply blk_drew | apply blk_alloc)); exact BK242.out)) : gb258 ≠ gb242))
                                   clear HO_3
                                   clear HO245
                                   clear HO251
                                   clear BK238
                                   clear BK242
                                   clear HB
                                   have HO_3 := n0_
                                   have HO245 := n1_
                                   have HO251 := n2_
                                   have BK238 := n3_
                                   have BK242 := n4_
                                   have HB := n5_
                                   have BK258 := n6_
                                   have GW258 := n7_
                                   have GE258 := n8_
                                   have NB238_258 := n9_
                                   have NB258_238 := n10_
                                   have NB242_258 := n11_
                                   have NB258_242 := n12_
                                   clear n0_ n1_ n2_ n3_ n4_ n5_ n6_ n7_ n8_ n9_ n10_ n11_ n12_
                                   clear hb hbox hg
                                   refine hK.out _ _ ⟨(blk_cell BK238.out 0).trans rfl, (blk_cell BK238.out 1).trans rfl⟩ (fun hHeld => ?_)
                                   clear hK K
                                   refine norm_ (a' := ?_) ?_ ?_
                                   rotate_left
                                   · show Act.put _ (some 8) _ = _
                                     simp only [Act.put, List.setIfInBounds_toArray, List.set_cons_zero, List.set_cons_succ, i64_w, i32_w]
                                     rfl
                                   exact norm_ (by first | (simp only [putAll, Act.put, List.setIfInBounds_toArray, List.set_cons_zero, List.set_cons_succ]; done) | (simp only [putAll, Act.put, List.setIfInBounds_toArray, List.set_cons_zero, List.set_cons_succ]; rfl)) (hJ0_4_10 (v244, v250, gb258) _ ⟨hHeld, (by (with_reducible repeat (first | apply Kd.R_alloc | apply Kd.R_drewN | apply Kd.R_drew)); exact Kd.R_mono HO245.out (fun _ hk => ⟨hk.1.1, ⟨hk.1.2.1, ⟨hk.1.2.2.1, ⟨hk.1.2.2.2, hk.2⟩⟩⟩⟩)), (by (with_reducible repeat (first | apply Kd.R_alloc | apply Kd.R_drewN | apply Kd.R_drew)); exact Kd.R_mono HO251.out (fun _ hk => ⟨hk.1.1, ⟨hk.1.2.1, ⟨hk.1.2.2.1, ⟨hk.1.2.2.2, hk.2⟩⟩⟩⟩)), (by (with_reducible repeat (first | apply Kd.R_alloc | apply Kd.R_drewN | apply Kd.R_drew)); exact Kd.R_mono HO_3.out (fun _ hk => ⟨hk.1.1, ⟨hk.1.2.1, ⟨hk.1.2.2.1, ⟨hk.1.2.2.2, hk.2⟩⟩⟩⟩)), (by (with_reducible repeat (first | apply blk_drewN | apply blk_drew | apply blk_alloc)); exact BK238.out), (by (with_reducible repeat (first | apply blk_drewN | apply blk_drew | apply blk_alloc)); exact BK242.out), (by (with_reducible repeat (first | apply blk_drewN | apply blk_drew | apply blk_alloc)); exact BK258.out), GW258.out, GE258.out, NB238_258.out, NB258_238.out, NB242_258.out, NB258_242.out, (by repeat (first | (with_reducible first | exact HB.out | apply below_alloc | apply pw_below_drewN | apply below_drew1 | refine below_set ?_ GE238.out | refine below_set ?_ GE242.out | refine below_set ?_ GE258.out) | exact HB.out))⟩)
                             · skip
                               rintro ⟨v244, v247⟩ w41 ⟨hS_, h0_, h1_, h2_, h3_, h4_⟩
                               have n0_ : Aside0 (Kd.R k26 26 w41 w.heap.size (fun k_ => some k_ ≠ (.slice Ao8 t232.length co8 : Value).ownBlock ∧ k_ ≠ gb238 ∧ k_ ≠ gb242) v247 y246) := ⟨h0_⟩
                               have n1_ : Aside0 (Kd.R k26 26 w41 w.heap.size (fun k_ => some k_ ≠ (v247 : Value).ownBlock ∧ k_ ≠ gb238 ∧ k_ ≠ gb242) (.slice Ao8 t232.length co8) t232) := ⟨h1_⟩
                               have n2_ : Aside0 (w41.heap[gb238]? = some (.cells #[.int .i64 t235, .int .i64 t236] 26 (0, 0))) := ⟨h2_⟩
                               have n3_ : Aside0 (w41.heap[gb242]? = some (.cells #[.int .i64 t239, .int .i64 t240] 26 (0, 0))) := ⟨h3_⟩
                               have n4_ : Aside0 (Below w.heap.size w w41) := ⟨h4_⟩
                               clear HO_3
                               clear BK238
                               clear BK242
                               clear HB
                               clear h0_ h1_ h2_ h3_ h4_
                               have HO248 := n0_
                               have HO_3 := n1_
                               have BK238 := n2_
                               have BK242 := n3_
                               have HB := n4_
                               clear n0_ n1_ n2_ n3_ n4_
                               have hHeld : w41.cell? ⟨gb238, 0, none⟩ = some (.int .i64 t235) ∧ w41.cell? ⟨gb238, 1, none⟩ = some (.int .i64 t236) := hS_
                               refine norm_ (a' := ?_) ?_ ?_
                               rotate_left
                               · simp only [putAll, Act.put, List.setIfInBounds_toArray, List.set_cons_zero, List.set_cons_succ]
                                 rfl
                               refine two_ (i := 4) (j := 10) (Ni := some 55) (Nj := some 8) #[true, true, true, true, true, false, false, false, false, false, false, false, false] #[true, true, true, true, false, false, false, false, false, false, true, false, false] rfl rfl rfl rfl (two_of HT_.out (by kernel_rfl)) (by decide) (by decide) (fun K hK => ?_) (fun K hK => ?_)
                               · skip
                                 refine Kd.R_lit_step k26 _ 26 ?hg (N := 55) ?hd (xs := ([(⟨t235, t236⟩ : S26)] : List (S26))) (inner := [.int .i64 t235, .int .i64 t236]) (ok := fun _ => True) (okp := fun _ => True) ?hr ?hp (fun _ hk => hk) trivial (Below.refl _ _) (Nat.le_refl _) (by simp) ?_; (case hd => rfl); (case hg => rfl); (case hr => first | (go_simp; done) | (go_simp; rfl)); (case hp => exact (Reps.c2 (show Kd.M k26 _ _ _ (⟨t235, t236⟩ : S26) [.int .i64 t235, .int .i64 t236] from (k26_mkM _ _ _ (⟨t235, t236⟩ : S26) )) (Reps.none _ _)))
                                 intro v250 w42 ho43 hb hg_ hnew_
                                 clear hg_ hnew_
                                 (first | rw [← Ny249.out] at ho43 | (simp only [Int.reduceToNat] at ho43; rw [← Ny249.out] at ho43))
                                 have n0_ := Aside0.mk (Kd.R_elder' (by (with_reducible repeat (first | apply Kd.R_alloc | apply Kd.R_drewN | apply Kd.R_drew)); exact HO_3.out) (Kd.R_base ho43) hb)
                                 have n1_ := Aside0.mk (Kd.R_elder' (by (with_reducible repeat (first | apply Kd.R_alloc | apply Kd.R_drewN | apply Kd.R_drew)); exact HO248.out) (Kd.R_base ho43) hb)
                                 have n2_ := Aside0.mk (Kd.R_lower (Kd.R_newB (Kd.R_newB (Kd.R_new' (Kd.R_new' ho43 (Kd.R_lt (by (with_reducible repeat (first | apply Kd.R_alloc | apply Kd.R_drewN | apply Kd.R_drew)); exact HO_3.out))) (Kd.R_lt (by (with_reducible repeat (first | apply Kd.R_alloc | apply Kd.R_drewN | apply Kd.R_drew)); exact HO248.out))) (g := gb238) (o := .cells #[.int .i64 t235, .int .i64 t236] 26 (0, 0)) (by (with_reducible repeat (first | apply blk_drewN | apply blk_drew | apply blk_alloc)); exact BK238.out)) (g := gb242) (o := .cells #[.int .i64 t239, .int .i64 t240] 26 (0, 0)) (by (with_reducible repeat (first | apply blk_drewN | apply blk_drew | apply blk_alloc)); exact BK242.out)) (below_size (by repeat (first | (with_reducible first | exact HB.out | apply below_alloc | apply pw_below_drewN | apply below_drew1 | refine below_set ?_ GE238.out | refine below_set ?_ GE242.out) | exact HB.out))))
                                 have n3_ := Aside0.mk (blk_below (g := gb238) (o := .cells #[.int .i64 t235, .int .i64 t236] 26 (0, 0)) (by (with_reducible repeat (first | apply blk_drewN | apply blk_drew | apply blk_alloc)); exact BK238.out) hb)
                                 have n4_ := Aside0.mk (blk_below (g := gb242) (o := .cells #[.int .i64 t239, .int .i64 t240] 26 (0, 0)) (by (with_reducible repeat (first | apply blk_drewN | apply blk_drew | apply blk_alloc)); exact BK242.out) hb)
                                 have n5_ := Aside0.mk (below_step (by repeat (first | (with_reducible first | exact HB.out | apply below_alloc | apply pw_below_drewN | apply below_drew1 | refine below_set ?_ GE238.out | refine below_set ?_ GE242.out) | exact HB.out)) hb)
                                 clear HO_3
                                 clear HO248
                                 clear BK238
                                 clear BK242
                                 clear HB
                                 have HO_3 := n0_
                                 have HO248 := n1_
                                 have HO251 := n2_
                                 have BK238 := n3_
                                 have BK242 := n4_
                                 have HB := n5_
                                 clear n0_ n1_ n2_ n3_ n4_ n5_
                                 clear hb ho43
                                 refine hK.out _ _ ⟨(blk_cell BK238.out 0).trans rfl, (blk_cell BK238.out 1).trans rfl⟩ (fun hHeld => ?_)
                                 clear hK K
                                 refine norm_ (a' := ?_) ?_ ?_
                                 rotate_left
                                 · show Act.put _ (some 55) _ = _
                                   simp only [Act.put, List.setIfInBounds_toArray, List.set_cons_zero, List.set_cons_succ, i64_w, i32_w]
                                   rfl
                                 exact norm_ (by first | (simp only [putAll, Act.put, List.setIfInBounds_toArray, List.set_cons_zero, List.set_cons_succ]; done) | (simp only [putAll, Act.put, List.setIfInBounds_toArray, List.set_cons_zero, List.set_cons_succ]; rfl)) (hJ0_2_4 (v244, v247, v250) _ ⟨hHeld, (by (with_reducible repeat (first | apply Kd.R_alloc | apply Kd.R_drewN | apply Kd.R_drew)); exact Kd.R_mono HO248.out (fun _ hk => ⟨hk.2, ⟨hk.1.1, ⟨hk.1.2.1, hk.1.2.2⟩⟩⟩)), (by (with_reducible repeat (first | apply Kd.R_alloc | apply Kd.R_drewN | apply Kd.R_drew)); exact Kd.R_mono HO251.out (fun _ hk => ⟨hk.1.1.2, ⟨hk.1.1.1.2, ⟨hk.1.2, hk.2⟩⟩⟩)), (by (with_reducible repeat (first | apply Kd.R_alloc | apply Kd.R_drewN | apply Kd.R_drew)); exact Kd.R_mono HO_3.out (fun _ hk => ⟨hk.1.1, ⟨hk.2, ⟨hk.1.2.1, hk.1.2.2⟩⟩⟩)), (by (with_reducible repeat (first | apply blk_drewN | apply blk_drew | apply blk_alloc)); exact BK238.out), (by (with_reducible repeat (first | apply blk_drewN | apply blk_drew | apply blk_alloc)); exact BK242.out), (by repeat (first | (with_reducible first | exact HB.out | apply below_alloc | apply pw_below_drewN | apply below_drew1 | refine below_set ?_ GE238.out | refine below_set ?_ GE242.out) | exact HB.out))⟩)
                               · skip
                                 refine box_step ?hg (N := 8) ?hd (cs := #[.int .i64 0, .int .i64 0]) (t := 26) ?hr ?_; (case hd => rfl); (case hg => rfl); (case hr => first | (go_simp; done) | (go_simp; rfl))
                                 intro gb258 hg w42 hbox hb
                                 have n0_ := Aside0.mk (Kd.R_below (Kd.R_elderB (by (with_reducible repeat (first | apply Kd.R_alloc | apply Kd.R_drewN | apply Kd.R_drew)); exact HO_3.out) gb258 (Nat.le_of_eq hg.symm)) hb)
                                 have n1_ := Aside0.mk (Kd.R_below (Kd.R_elderB (by (with_reducible repeat (first | apply Kd.R_alloc | apply Kd.R_drewN | apply Kd.R_drew)); exact HO248.out) gb258 (Nat.le_of_eq hg.symm)) hb)
                                 have n2_ := Aside0.mk (blk_below (g := gb238) (o := .cells #[.int .i64 t235, .int .i64 t236] 26 (0, 0)) (by (with_reducible repeat (first | apply blk_drewN | apply blk_drew | apply blk_alloc)); exact BK238.out) hb)
                                 have n3_ := Aside0.mk (blk_below (g := gb242) (o := .cells #[.int .i64 t239, .int .i64 t240] 26 (0, 0)) (by (with_reducible repeat (first | apply blk_drewN | apply blk_drew | apply blk_alloc)); exact BK242.out) hb)
                                 have n4_ := Aside0.mk (below_step (by repeat (first | (with_reducible first | exact HB.out | apply below_alloc | apply pw_below_drewN | apply below_drew1 | refine below_set ?_ GE238.out | refine below_set ?_ GE242.out) | exact HB.out)) hb)
                                 have n5_ := Aside0.mk (hbox)
                                 have n6_ := Aside0.mk ((by rw [hg]; exact (below_size (by repeat (first | (with_reducible first | exact HB.out | apply below_alloc | apply pw_below_drewN | apply below_drew1 | refine below_set ?_ GE238.out | refine below_set ?_ GE242.out) | exact HB.out))) : w.heap.size ≤ gb258))
                                 have n7_ := Aside0.mk ((by rw [hg]; exact (below_size (by repeat (first | (with_reducible first | exact HB.out | apply below_alloc | apply pw_below_drewN | apply below_drew1 | refine below_set ?_ GE238.out | refine below_set ?_ GE242.out) | exact HB.out))) : w.heap.size ≤ gb258))
                                 have n8_ := Aside0.mk ((by rw [hg]; exact Nat.ne_of_lt (blk_lt (g := gb238) (o := .cells #[.int .i64 t235, .int .i64 t236] 26 (0, 0)) (by (with_reducible repeat (first | apply blk_drewN | apply blk_drew | apply blk_alloc)); exact BK238.out)) : gb238 ≠ gb258))
                                 have n9_ := Aside0.mk ((by rw [hg]; exact Nat.ne_of_gt (blk_lt (g := gb238) (o := .cells #[.int .i64 t235, .int .i64 t236] 26 (0, 0)) (by (with_reducible repeat (first | apply blk_drewN | apply blk_drew | apply blk_alloc)); exact BK238.out)) : gb258 ≠ gb238))
                                 have n10_ := Aside0.mk ((by rw [hg]; exact Nat.ne_of_lt (blk_lt (g := gb242) (o := .cells #[.int .i64 t239, .int .i64 t240] 26 (0, 0)) (by (with_reducible repeat (first | apply blk_drewN | apply blk_drew | apply blk_alloc)); exact BK242.out)) : gb242 ≠ gb258))
                                 have n11_ := Aside0.mk ((by rw [hg]; exact Nat.ne_of_gt (blk_lt (g := gb242) (o := .cells #[.int .i64 t239, .int .i64 t240] 26 (0, 0)) (by (with_reducible repeat (first | apply blk_drewN | apply blk_drew | apply blk_alloc)); exact BK242.out)) : gb258 ≠ gb242))
                                 clear HO_3
                                 clear HO248
                                 clear BK238
                                 clear BK242
                                 clear HB
                                 have HO_3 := n0_
                                 have HO248 := n1_
                                 have BK238 := n2_
                                 have BK242 := n3_
                                 have HB := n4_
                                 have BK258 := n5_
                                 have GW258 := n6_
                                 have GE258 := n7_
                                 have NB238_258 := n8_
                                 have NB258_238 := n9_
                                 have NB242_258 := n10_
                                 have NB258_242 := n11_
                                 clear n0_ n1_ n2_ n3_ n4_ n5_ n6_ n7_ n8_ n9_ n10_ n11_
                                 clear hb hbox hg
                                 refine hK.out _ _ ⟨(blk_cell BK238.out 0).trans rfl, (blk_cell BK238.out 1).trans rfl⟩ (fun hHeld => ?_)
                                 clear hK K
                                 refine norm_ (a' := ?_) ?_ ?_
                                 rotate_left
                                 · show Act.put _ (some 8) _ = _
                                   simp only [Act.put, List.setIfInBounds_toArray, List.set_cons_zero, List.set_cons_succ, i64_w, i32_w]
                                   rfl
                                 exact norm_ (by first | (simp only [putAll, Act.put, List.setIfInBounds_toArray, List.set_cons_zero, List.set_cons_succ]; done) | (simp only [putAll, Act.put, List.setIfInBounds_toArray, List.set_cons_zero, List.set_cons_succ]; rfl)) (hJ0_2_10 (v244, v247, gb258) _ ⟨hHeld, (by (with_reducible repeat (first | apply Kd.R_alloc | apply Kd.R_drewN | apply Kd.R_drew)); exact Kd.R_mono HO248.out (fun _ hk => ⟨hk.1.1, ⟨hk.1.2.1, ⟨hk.1.2.2, hk.2⟩⟩⟩)), (by (with_reducible repeat (first | apply Kd.R_alloc | apply Kd.R_drewN | apply Kd.R_drew)); exact Kd.R_mono HO_3.out (fun _ hk => ⟨hk.1.1, ⟨hk.1.2.1, ⟨hk.1.2.2, hk.2⟩⟩⟩)), (by (with_reducible repeat (first | apply blk_drewN | apply blk_drew | apply blk_alloc)); exact BK238.out), (by (with_reducible repeat (first | apply blk_drewN | apply blk_drew | apply blk_alloc)); exact BK242.out), (by (with_reducible repeat (first | apply blk_drewN | apply blk_drew | apply blk_alloc)); exact BK258.out), GW258.out, GE258.out, NB238_258.out, NB258_238.out, NB242_258.out, NB258_242.out, (by repeat (first | (with_reducible first | exact HB.out | apply below_alloc | apply pw_below_drewN | apply below_drew1 | refine below_set ?_ GE238.out | refine below_set ?_ GE242.out | refine below_set ?_ GE258.out) | exact HB.out))⟩)
                           · skip
                             rintro ⟨v244, v250, gb258⟩ w43 ⟨hS_, h0_, h1_, h2_, h3_, h4_, h5_, h6_, h7_, h8_, h9_, h10_, h11_, h12_⟩
                             have n0_ : Aside0 (Kd.R k26 26 w43 w.heap.size (fun k_ => some k_ ≠ (v250 : Value).ownBlock ∧ some k_ ≠ (.slice Ao8 t232.length co8 : Value).ownBlock ∧ k_ ≠ gb238 ∧ k_ ≠ gb242 ∧ k_ ≠ gb258) v244 y243) := ⟨h0_⟩
                             have n1_ : Aside0 (Kd.R k26 26 w43 w.heap.size (fun k_ => some k_ ≠ (v244 : Value).ownBlock ∧ some k_ ≠ (.slice Ao8 t232.length co8 : Value).ownBlock ∧ k_ ≠ gb238 ∧ k_ ≠ gb242 ∧ k_ ≠ gb258) v250 y249) := ⟨h1_⟩
                             have n2_ : Aside0 (Kd.R k26 26 w43 w.heap.size (fun k_ => some k_ ≠ (v244 : Value).ownBlock ∧ some k_ ≠ (v250 : Value).ownBlock ∧ k_ ≠ gb238 ∧ k_ ≠ gb242 ∧ k_ ≠ gb258) (.slice Ao8 t232.length co8) t232) := ⟨h2_⟩
                             have n3_ : Aside0 (w43.heap[gb238]? = some (.cells #[.int .i64 t235, .int .i64 t236] 26 (0, 0))) := ⟨h3_⟩
                             have n4_ : Aside0 (w43.heap[gb242]? = some (.cells #[.int .i64 t239, .int .i64 t240] 26 (0, 0))) := ⟨h4_⟩
                             have n5_ : Aside0 (w43.heap[gb258]? = some (.cells #[.int .i64 0, .int .i64 0] 26 (0, 0))) := ⟨h5_⟩
                             have n6_ : Aside0 (w.heap.size ≤ gb258) := ⟨h6_⟩
                             have n7_ : Aside0 (w.heap.size ≤ gb258) := ⟨h7_⟩
                             have n8_ : Aside0 (gb238 ≠ gb258) := ⟨h8_⟩
                             have n9_ : Aside0 (gb258 ≠ gb238) := ⟨h9_⟩
                             have n10_ : Aside0 (gb242 ≠ gb258) := ⟨h10_⟩
                             have n11_ : Aside0 (gb258 ≠ gb242) := ⟨h11_⟩
                             have n12_ : Aside0 (Below w.heap.size w w43) := ⟨h12_⟩
                             clear HO_3
                             clear BK238
                             clear BK242
                             clear HB
                             clear h0_ h1_ h2_ h3_ h4_ h5_ h6_ h7_ h8_ h9_ h10_ h11_ h12_
                             have HO245 := n0_
                             have HO251 := n1_
                             have HO_3 := n2_
                             have BK238 := n3_
                             have BK242 := n4_
                             have BK258 := n5_
                             have GW258 := n6_
                             have GE258 := n7_
                             have NB238_258 := n8_
                             have NB258_238 := n9_
                             have NB242_258 := n10_
                             have NB258_242 := n11_
                             have HB := n12_
                             clear n0_ n1_ n2_ n3_ n4_ n5_ n6_ n7_ n8_ n9_ n10_ n11_ n12_
                             have hHeld : w43.cell? ⟨gb238, 0, none⟩ = some (.int .i64 t235) ∧ w43.cell? ⟨gb238, 1, none⟩ = some (.int .i64 t236) := hS_
                             refine norm_ (a' := ?_) ?_ ?_
                             rotate_left
                             · simp only [putAll, Act.put, List.setIfInBounds_toArray, List.set_cons_zero, List.set_cons_succ]
                               rfl
                             refine one_ (i := 2) (N := some 53) #[true, true, true, true, true, false, false, false, false, false, true, false, false] rfl rfl (one_of HT_.out (by kernel_rfl)) (by decide) (fun K hK => ?_)
                             refine Kd.R_append_rows_step k26 (w0 := w) w.heap.size (by rfl) (.tmp 51) (.tmp 52) 23 26 (.agg #[(.int .i64 0), (.int .i64 0)]) 16 rfl Try.underlying23 info26 rfl (by decide) (by omega) v244 y243 t232 _ _ _ (fun k_ => some k_ ≠ (.slice Ao8 t232.length co8 : Value).ownBlock ∧ some k_ ≠ (v250 : Value).ownBlock ∧ k_ ≠ gb238 ∧ k_ ≠ gb242 ∧ k_ ≠ gb258) (fun _ => False) rfl rfl ?aO ?aR (fun _ _ h => h) (fun _ h => h.elim) ?aF ?aB ?aS ?aL ?_
                             (case aR => repeat (first | exact (Kd.R_reads' HO_3.out).2.2 | (with_reducible refine Kd.C_alloc ?_ _) | (with_reducible refine Kd.C_drewN ?_ _) | (with_reducible refine Kd.C_drew ?_)))
                             (case aB => exact (by repeat (first | (with_reducible first | exact HB.out | apply below_alloc | apply pw_below_drewN | apply below_drew1 | refine below_set ?_ GE238.out | refine below_set ?_ GE242.out | refine below_set ?_ GE258.out) | exact HB.out)))
                             (case aF => exact (fun k_ hk => ⟨Kd.fresh' (Kd.R_lt (by (with_reducible repeat (first | apply Kd.R_alloc | apply Kd.R_drewN | apply Kd.R_drew)); exact HO_3.out)) k_ hk, Kd.fresh' (Kd.R_lt (by (with_reducible repeat (first | apply Kd.R_alloc | apply Kd.R_drewN | apply Kd.R_drew)); exact HO251.out)) k_ hk, Kd.freshB (g := gb238) (o := .cells #[.int .i64 t235, .int .i64 t236] 26 (0, 0)) (by (with_reducible repeat (first | apply blk_drewN | apply blk_drew | apply blk_alloc)); exact BK238.out) k_ hk, Kd.freshB (g := gb242) (o := .cells #[.int .i64 t239, .int .i64 t240] 26 (0, 0)) (by (with_reducible repeat (first | apply blk_drewN | apply blk_drew | apply blk_alloc)); exact BK242.out) k_ hk, Kd.freshB (g := gb258) (o := .cells #[.int .i64 0, .int .i64 0] 26 (0, 0)) (by (with_reducible repeat (first | apply blk_drewN | apply blk_drew | apply blk_alloc)); exact BK258.out) k_ hk⟩))
                             (case aO => exact (by (with_reducible repeat (first | apply Kd.R_alloc | apply Kd.R_drewN | apply Kd.R_drew)); exact Kd.R_mono HO245.out (fun _ hk => ⟨hk.2.1, ⟨hk.1, ⟨hk.2.2.1, ⟨hk.2.2.2.1, hk.2.2.2.2⟩⟩⟩⟩)))
                             (case aS => exact (below_size (by repeat (first | (with_reducible first | exact HB.out | apply below_alloc | apply pw_below_drewN | apply below_drew1 | refine below_set ?_ GE238.out | refine below_set ?_ GE242.out | refine below_set ?_ GE258.out) | exact HB.out))))
                             (case aL => have := LMc33.out; omega)
                             intro v247 w44 ho hb hg hat
                             rw [← Ny246.out] at ho
                             have n0_ := Aside0.mk (Kd.R_after (ok := (fun k_ => some k_ ≠ (v250 : Value).ownBlock ∧ k_ ≠ gb238 ∧ k_ ≠ gb242 ∧ k_ ≠ gb258)) (by (with_reducible repeat (first | apply Kd.R_alloc | apply Kd.R_drewN | apply Kd.R_drew)); exact Kd.R_mono HO_3.out (fun _ hk => ⟨⟨hk.2.1, ⟨hk.2.2.1, ⟨hk.2.2.2.1, hk.2.2.2.2⟩⟩⟩, hk.1⟩)) hg hat)
                             have n1_ := Aside0.mk (blk_grown (g := gb238) (o := .cells #[.int .i64 t235, .int .i64 t236] 26 (0, 0)) (by (with_reducible repeat (first | apply blk_drewN | apply blk_drew | apply blk_alloc)); exact BK238.out) hg (Kd.R_away HO245.out (fun _ hk => hk.2.2.1)))
                             have n2_ := Aside0.mk (blk_grown (g := gb242) (o := .cells #[.int .i64 t239, .int .i64 t240] 26 (0, 0)) (by (with_reducible repeat (first | apply blk_drewN | apply blk_drew | apply blk_alloc)); exact BK242.out) hg (Kd.R_away HO245.out (fun _ hk => hk.2.2.2.1)))
                             have n3_ := Aside0.mk (Kd.R_after (ok := (fun k_ => some k_ ≠ (.slice Ao8 t232.length co8 : Value).ownBlock ∧ k_ ≠ gb238 ∧ k_ ≠ gb242 ∧ k_ ≠ gb258)) (by (with_reducible repeat (first | apply Kd.R_alloc | apply Kd.R_drewN | apply Kd.R_drew)); exact Kd.R_mono HO251.out (fun _ hk => ⟨⟨hk.2.1, ⟨hk.2.2.1, ⟨hk.2.2.2.1, hk.2.2.2.2⟩⟩⟩, hk.1⟩)) hg hat)
                             have n4_ := Aside0.mk (blk_grown (g := gb258) (o := .cells #[.int .i64 0, .int .i64 0] 26 (0, 0)) (by (with_reducible repeat (first | apply blk_drewN | apply blk_drew | apply blk_alloc)); exact BK258.out) hg (Kd.R_away HO245.out (fun _ hk => hk.2.2.2.2)))
                             have n5_ := Aside0.mk (hb)
                             have n6_ := Aside0.mk (ho)
                             clear HO_3
                             clear BK238
                             clear BK242
                             clear HO251
                             clear BK258
                             clear HB
                             clear HO245
                             have HO_3 := n0_
                             have BK238 := n1_
                             have BK242 := n2_
                             have HO251 := n3_
                             have BK258 := n4_
                             have HB := n5_
                             have HO248 := n6_
                             clear n0_ n1_ n2_ n3_ n4_ n5_ n6_
                             clear ho hb hg hat
                             refine hK.out _ _ ⟨(blk_cell BK238.out 0).trans rfl, (blk_cell BK238.out 1).trans rfl⟩ (fun hHeld => ?_)
                             clear hK K
                             refine norm_ (a' := ?_) ?_ ?_
                             rotate_left
                             · show Act.put _ (some 53) _ = _
                               simp only [Act.put, List.setIfInBounds_toArray, List.set_cons_zero, List.set_cons_succ, i64_w, i32_w]
                               rfl
                             exact norm_ (by first | (simp only [putAll, Act.put, List.setIfInBounds_toArray, List.set_cons_zero, List.set_cons_succ]; done) | (simp only [putAll, Act.put, List.setIfInBounds_toArray, List.set_cons_zero, List.set_cons_succ]; rfl)) (hJ0_2_4_10 (v244, v247, v250, gb258) _ ⟨hHeld, (by (with_reducible repeat (first | apply Kd.R_alloc | apply Kd.R_drewN | apply Kd.R_drew)); exact Kd.R_mono HO248.out (fun _ hk => ⟨hk.2.1, ⟨hk.1, ⟨hk.2.2.1, ⟨hk.2.2.2.1, hk.2.2.2.2⟩⟩⟩⟩)), (by (with_reducible repeat (first | apply Kd.R_alloc | apply Kd.R_drewN | apply Kd.R_drew)); exact Kd.R_mono HO251.out (fun _ hk => ⟨hk.2, ⟨hk.1.1, ⟨hk.1.2.1, ⟨hk.1.2.2.1, hk.1.2.2.2⟩⟩⟩⟩)), (by (with_reducible repeat (first | apply Kd.R_alloc | apply Kd.R_drewN | apply Kd.R_drew)); exact Kd.R_mono HO_3.out (fun _ hk => ⟨hk.2, ⟨hk.1.1, ⟨hk.1.2.1, ⟨hk.1.2.2.1, hk.1.2.2.2⟩⟩⟩⟩)), (by (with_reducible repeat (first | apply blk_drewN | apply blk_drew | apply blk_alloc)); exact BK238.out), (by (with_reducible repeat (first | apply blk_drewN | apply blk_drew | apply blk_alloc)); exact BK242.out), (by (with_reducible repeat (first | apply blk_drewN | apply blk_drew | apply blk_alloc)); exact BK258.out), GW258.out, GE258.out, NB238_258.out, NB258_238.out, NB242_258.out, NB258_242.out, (by repeat (first | (with_reducible first | exact HB.out | apply below_alloc | apply pw_below_drewN | apply below_drew1 | refine below_set ?_ GE238.out | refine below_set ?_ GE242.out | refine below_set ?_ GE258.out) | exact HB.out))⟩)
                         · skip
                           rintro ⟨v244, v247, gb258⟩ w42 ⟨hS_, h0_, h1_, h2_, h3_, h4_, h5_, h6_, h7_, h8_, h9_, h10_, h11_⟩
                           have n0_ : Aside0 (Kd.R k26 26 w42 w.heap.size (fun k_ => some k_ ≠ (.slice Ao8 t232.length co8 : Value).ownBlock ∧ k_ ≠ gb238 ∧ k_ ≠ gb242 ∧ k_ ≠ gb258) v247 y246) := ⟨h0_⟩
                           have n1_ : Aside0 (Kd.R k26 26 w42 w.heap.size (fun k_ => some k_ ≠ (v247 : Value).ownBlock ∧ k_ ≠ gb238 ∧ k_ ≠ gb242 ∧ k_ ≠ gb258) (.slice Ao8 t232.length co8) t232) := ⟨h1_⟩
                           have n2_ : Aside0 (w42.heap[gb238]? = some (.cells #[.int .i64 t235, .int .i64 t236] 26 (0, 0))) := ⟨h2_⟩
                           have n3_ : Aside0 (w42.heap[gb242]? = some (.cells #[.int .i64 t239, .int .i64 t240] 26 (0, 0))) := ⟨h3_⟩
                           have n4_ : Aside0 (w42.heap[gb258]? = some (.cells #[.int .i64 0, .int .i64 0] 26 (0, 0))) := ⟨h4_⟩
                           have n5_ : Aside0 (w.heap.size ≤ gb258) := ⟨h5_⟩
                           have n6_ : Aside0 (w.heap.size ≤ gb258) := ⟨h6_⟩
                           have n7_ : Aside0 (gb238 ≠ gb258) := ⟨h7_⟩
                           have n8_ : Aside0 (gb258 ≠ gb238) := ⟨h8_⟩
                           have n9_ : Aside0 (gb242 ≠ gb258) := ⟨h9_⟩
                           have n10_ : Aside0 (gb258 ≠ gb242) := ⟨h10_⟩
                           have n11_ : Aside0 (Below w.heap.size w w42) := ⟨h11_⟩
                           clear HO_3
                           clear BK238
                           clear BK242
                           clear HB
                           clear h0_ h1_ h2_ h3_ h4_ h5_ h6_ h7_ h8_ h9_ h10_ h11_
                           have HO248 := n0_
                           have HO_3 := n1_
                           have BK238 := n2_
                           have BK242 := n3_
                           have BK258 := n4_
                           have GW258 := n5_
                           have GE258 := n6_
                           have NB238_258 := n7_
                           have NB258_238 := n8_
                           have NB242_258 := n9_
                           have NB258_242 := n10_
                           have HB := n11_
                           clear n0_ n1_ n2_ n3_ n4_ n5_ n6_ n7_ n8_ n9_ n10_ n11_
                           have hHeld : w42.cell? ⟨gb238, 0, none⟩ = some (.int .i64 t235) ∧ w42.cell? ⟨gb238, 1, none⟩ = some (.int .i64 t236) := hS_
                           refine norm_ (a' := ?_) ?_ ?_
                           rotate_left
                           · simp only [putAll, Act.put, List.setIfInBounds_toArray, List.set_cons_zero, List.set_cons_succ]
                             rfl
                           refine one_ (i := 4) (N := some 55) #[true, true, true, true, true, false, false, false, false, false, true, false, false] rfl rfl (one_of HT_.out (by kernel_rfl)) (by decide) (fun K hK => ?_)
                           refine Kd.R_lit_step k26 _ 26 ?hg (N := 55) ?hd (xs := ([(⟨t235, t236⟩ : S26)] : List (S26))) (inner := [.int .i64 t235, .int .i64 t236]) (ok := fun _ => True) (okp := fun _ => True) ?hr ?hp (fun _ hk => hk) trivial (Below.refl _ _) (Nat.le_refl _) (by simp) ?_; (case hd => rfl); (case hg => rfl); (case hr => first | (go_simp; done) | (go_simp; rfl)); (case hp => exact (Reps.c2 (show Kd.M k26 _ _ _ (⟨t235, t236⟩ : S26) [.int .i64 t235, .int .i64 t236] from (k26_mkM _ _ _ (⟨t235, t236⟩ : S26) )) (Reps.none _ _)))
                           intro v250 w43 ho44 hb hg_ hnew_
                           clear hg_ hnew_
                           (first | rw [← Ny249.out] at ho44 | (simp only [Int.reduceToNat] at ho44; rw [← Ny249.out] at ho44))
                           have n0_ := Aside0.mk (Kd.R_elder' (by (with_reducible repeat (first | apply Kd.R_alloc | apply Kd.R_drewN | apply Kd.R_drew)); exact HO_3.out) (Kd.R_base ho44) hb)
                           have n1_ := Aside0.mk (Kd.R_elder' (by (with_reducible repeat (first | apply Kd.R_alloc | apply Kd.R_drewN | apply Kd.R_drew)); exact HO248.out) (Kd.R_base ho44) hb)
                           have n2_ := Aside0.mk (Kd.R_lower (Kd.R_newB (Kd.R_newB (Kd.R_newB (Kd.R_new' (Kd.R_new' ho44 (Kd.R_lt (by (with_reducible repeat (first | apply Kd.R_alloc | apply Kd.R_drewN | apply Kd.R_drew)); exact HO_3.out))) (Kd.R_lt (by (with_reducible repeat (first | apply Kd.R_alloc | apply Kd.R_drewN | apply Kd.R_drew)); exact HO248.out))) (g := gb238) (o := .cells #[.int .i64 t235, .int .i64 t236] 26 (0, 0)) (by (with_reducible repeat (first | apply blk_drewN | apply blk_drew | apply blk_alloc)); exact BK238.out)) (g := gb242) (o := .cells #[.int .i64 t239, .int .i64 t240] 26 (0, 0)) (by (with_reducible repeat (first | apply blk_drewN | apply blk_drew | apply blk_alloc)); exact BK242.out)) (g := gb258) (o := .cells #[.int .i64 0, .int .i64 0] 26 (0, 0)) (by (with_reducible repeat (first | apply blk_drewN | apply blk_drew | apply blk_alloc)); exact BK258.out)) (below_size (by repeat (first | (with_reducible first | exact HB.out | apply below_alloc | apply pw_below_drewN | apply below_drew1 | refine below_set ?_ GE238.out | refine below_set ?_ GE242.out | refine below_set ?_ GE258.out) | exact HB.out))))
                           have n3_ := Aside0.mk (blk_below (g := gb238) (o := .cells #[.int .i64 t235, .int .i64 t236] 26 (0, 0)) (by (with_reducible repeat (first | apply blk_drewN | apply blk_drew | apply blk_alloc)); exact BK238.out) hb)
                           have n4_ := Aside0.mk (blk_below (g := gb242) (o := .cells #[.int .i64 t239, .int .i64 t240] 26 (0, 0)) (by (with_reducible repeat (first | apply blk_drewN | apply blk_drew | apply blk_alloc)); exact BK242.out) hb)
                           have n5_ := Aside0.mk (blk_below (g := gb258) (o := .cells #[.int .i64 0, .int .i64 0] 26 (0, 0)) (by (with_reducible repeat (first | apply blk_drewN | apply blk_drew | apply blk_alloc)); exact BK258.out) hb)
                           have n6_ := Aside0.mk (below_step (by repeat (first | (with_reducible first | exact HB.out | apply below_alloc | apply pw_below_drewN | apply below_drew1 | refine below_set ?_ GE238.out | refine below_set ?_ GE242.out | refine below_set ?_ GE258.out) | exact HB.out)) hb)
                           clear HO_3
                           clear HO248
                           clear BK238
                           clear BK242
                           clear BK258
                           clear HB
                           have HO_3 := n0_
                           have HO248 := n1_
                           have HO251 := n2_
                           have BK238 := n3_
                           have BK242 := n4_
                           have BK258 := n5_
                           have HB := n6_
                           clear n0_ n1_ n2_ n3_ n4_ n5_ n6_
                           clear hb ho44
                           refine hK.out _ _ ⟨(blk_cell BK238.out 0).trans rfl, (blk_cell BK238.out 1).trans rfl⟩ (fun hHeld => ?_)
                           clear hK K
                           refine norm_ (a' := ?_) ?_ ?_
                           rotate_left
                           · show Act.put _ (some 55) _ = _
                             simp only [Act.put, List.setIfInBounds_toArray, List.set_cons_zero, List.set_cons_succ, i64_w, i32_w]
                             rfl
                           exact norm_ (by first | (simp only [putAll, Act.put, List.setIfInBounds_toArray, List.set_cons_zero, List.set_cons_succ]; done) | (simp only [putAll, Act.put, List.setIfInBounds_toArray, List.set_cons_zero, List.set_cons_succ]; rfl)) (hJ0_2_4_10 (v244, v247, v250, gb258) _ ⟨hHeld, (by (with_reducible repeat (first | apply Kd.R_alloc | apply Kd.R_drewN | apply Kd.R_drew)); exact Kd.R_mono HO248.out (fun _ hk => ⟨hk.2, ⟨hk.1.1, ⟨hk.1.2.1, ⟨hk.1.2.2.1, hk.1.2.2.2⟩⟩⟩⟩)), (by (with_reducible repeat (first | apply Kd.R_alloc | apply Kd.R_drewN | apply Kd.R_drew)); exact Kd.R_mono HO251.out (fun _ hk => ⟨hk.1.1.1.2, ⟨hk.1.1.1.1.2, ⟨hk.1.1.2, ⟨hk.1.2, hk.2⟩⟩⟩⟩)), (by (with_reducible repeat (first | apply Kd.R_alloc | apply Kd.R_drewN | apply Kd.R_drew)); exact Kd.R_mono HO_3.out (fun _ hk => ⟨hk.1.1, ⟨hk.2, ⟨hk.1.2.1, ⟨hk.1.2.2.1, hk.1.2.2.2⟩⟩⟩⟩)), (by (with_reducible repeat (first | apply blk_drewN | apply blk_drew | apply blk_alloc)); exact BK238.out), (by (with_reducible repeat (first | apply blk_drewN | apply blk_drew | apply blk_alloc)); exact BK242.out), (by (with_reducible repeat (first | apply blk_drewN | apply blk_drew | apply blk_alloc)); exact BK258.out), GW258.out, GE258.out, NB238_258.out, NB258_238.out, NB242_258.out, NB258_242.out, (by repeat (first | (with_reducible first | exact HB.out | apply below_alloc | apply pw_below_drewN | apply below_drew1 | refine below_set ?_ GE238.out | refine below_set ?_ GE242.out | refine below_set ?_ GE258.out) | exact HB.out))⟩)
                       · skip
                         rintro ⟨v244, v247, v250⟩ w43 ⟨hS_, h0_, h1_, h2_, h3_, h4_, h5_⟩
                         have n0_ : Aside0 (Kd.R k26 26 w43 w.heap.size (fun k_ => some k_ ≠ (v250 : Value).ownBlock ∧ some k_ ≠ (.slice Ao8 t232.length co8 : Value).ownBlock ∧ k_ ≠ gb238 ∧ k_ ≠ gb242) v247 y246) := ⟨h0_⟩
                         have n1_ : Aside0 (Kd.R k26 26 w43 w.heap.size (fun k_ => some k_ ≠ (v247 : Value).ownBlock ∧ some k_ ≠ (.slice Ao8 t232.length co8 : Value).ownBlock ∧ k_ ≠ gb238 ∧ k_ ≠ gb242) v250 y249) := ⟨h1_⟩
                         have n2_ : Aside0 (Kd.R k26 26 w43 w.heap.size (fun k_ => some k_ ≠ (v247 : Value).ownBlock ∧ some k_ ≠ (v250 : Value).ownBlock ∧ k_ ≠ gb238 ∧ k_ ≠ gb242) (.slice Ao8 t232.length co8) t232) := ⟨h2_⟩
                         have n3_ : Aside0 (w43.heap[gb238]? = some (.cells #[.int .i64 t235, .int .i64 t236] 26 (0, 0))) := ⟨h3_⟩
                         have n4_ : Aside0 (w43.heap[gb242]? = some (.cells #[.int .i64 t239, .int .i64 t240] 26 (0, 0))) := ⟨h4_⟩
                         have n5_ : Aside0 (Below w.heap.size w w43) := ⟨h5_⟩
                         clear HO_3
                         clear BK238
                         clear BK242
                         clear HB
                         clear h0_ h1_ h2_ h3_ h4_ h5_
                         have HO248 := n0_
                         have HO251 := n1_
                         have HO_3 := n2_
                         have BK238 := n3_
                         have BK242 := n4_
                         have HB := n5_
                         clear n0_ n1_ n2_ n3_ n4_ n5_
                         have hHeld : w43.cell? ⟨gb238, 0, none⟩ = some (.int .i64 t235) ∧ w43.cell? ⟨gb238, 1, none⟩ = some (.int .i64 t236) := hS_
                         obtain ⟨Ao45, co45, eo45⟩ := Kd.R_slice HO251.out
                         (first | subst eo45 | (injection eo45 with f1_ f2_ f3_; have f4_ := f1_.symm; have f5_ := f3_.symm; clear f1_ f2_ f3_; subst f4_; subst f5_))
                         refine norm_ (a' := ?_) ?_ ?_
                         rotate_left
                         · simp only [putAll, Act.put, List.setIfInBounds_toArray, List.set_cons_zero, List.set_cons_succ]
                           rfl
                         refine two_ (i := 5) (j := 10) (Ni := some 56) (Nj := some 8) #[true, true, true, true, true, true, false, false, false, false, false, false, false] #[true, true, true, true, true, false, false, false, false, false, true, false, false] rfl rfl rfl rfl (two_of HT_.out (by kernel_rfl)) (by decide) (by decide) (fun K hK => ?_) (fun K hK => ?_)
                         · skip
                           refine Kd.R_append_rows_step k26 (w0 := w) w.heap.size (by rfl) (.tmp 53) (.tmp 55) 23 26 (.agg #[(.int .i64 0), (.int .i64 0)]) 16 rfl Try.underlying23 info26 rfl (by decide) (by omega) v247 y246 y249 _ _ _ (fun k_ => some k_ ≠ (.slice Ao8 t232.length co8 : Value).ownBlock ∧ some k_ ≠ (.slice Ao45 y249.length co45 : Value).ownBlock ∧ k_ ≠ gb238 ∧ k_ ≠ gb242) (fun _ => False) rfl rfl ?aO ?aR (fun _ _ h => h) (fun _ h => h.elim) ?aF ?aB ?aS ?aL ?_
                           (case aR => repeat (first | exact (Kd.R_reads' HO251.out).2.2 | (with_reducible refine Kd.C_alloc ?_ _) | (with_reducible refine Kd.C_drewN ?_ _) | (with_reducible refine Kd.C_drew ?_)))
                           (case aB => exact (by repeat (first | (with_reducible first | exact HB.out | apply below_alloc | apply pw_below_drewN | apply below_drew1 | refine below_set ?_ GE238.out | refine below_set ?_ GE242.out) | exact HB.out)))
                           (case aF => exact (fun k_ hk => ⟨Kd.fresh' (Kd.R_lt (by (with_reducible repeat (first | apply Kd.R_alloc | apply Kd.R_drewN | apply Kd.R_drew)); exact HO_3.out)) k_ hk, Kd.fresh' (Kd.R_lt (by (with_reducible repeat (first | apply Kd.R_alloc | apply Kd.R_drewN | apply Kd.R_drew)); exact HO251.out)) k_ hk, Kd.freshB (g := gb238) (o := .cells #[.int .i64 t235, .int .i64 t236] 26 (0, 0)) (by (with_reducible repeat (first | apply blk_drewN | apply blk_drew | apply blk_alloc)); exact BK238.out) k_ hk, Kd.freshB (g := gb242) (o := .cells #[.int .i64 t239, .int .i64 t240] 26 (0, 0)) (by (with_reducible repeat (first | apply blk_drewN | apply blk_drew | apply blk_alloc)); exact BK242.out) k_ hk⟩))
                           (case aO => exact (by (with_reducible repeat (first | apply Kd.R_alloc | apply Kd.R_drewN | apply Kd.R_drew)); exact Kd.R_mono HO248.out (fun _ hk => ⟨hk.2.1, ⟨hk.1, ⟨hk.2.2.1, hk.2.2.2⟩⟩⟩)))
                           (case aS => exact (below_size (by repeat (first | (with_reducible first | exact HB.out | apply below_alloc | apply pw_below_drewN | apply below_drew1 | refine below_set ?_ GE238.out | refine below_set ?_ GE242.out) | exact HB.out))))
                           (case aL => have := LMc34.out; omega)
                           intro v253 w44 ho hb hg hat
                           rw [← Ny252.out] at ho
                           have n0_ := Aside0.mk (Kd.R_after (ok := (fun k_ => some k_ ≠ (.slice Ao45 y249.length co45 : Value).ownBlock ∧ k_ ≠ gb238 ∧ k_ ≠ gb242)) (by (with_reducible repeat (first | apply Kd.R_alloc | apply Kd.R_drewN | apply Kd.R_drew)); exact Kd.R_mono HO_3.out (fun _ hk => ⟨⟨hk.2.1, ⟨hk.2.2.1, hk.2.2.2⟩⟩, hk.1⟩)) hg hat)
                           have n1_ := Aside0.mk (blk_grown (g := gb238) (o := .cells #[.int .i64 t235, .int .i64 t236] 26 (0, 0)) (by (with_reducible repeat (first | apply blk_drewN | apply blk_drew | apply blk_alloc)); exact BK238.out) hg (Kd.R_away HO248.out (fun _ hk => hk.2.2.1)))
                           have n2_ := Aside0.mk (blk_grown (g := gb242) (o := .cells #[.int .i64 t239, .int .i64 t240] 26 (0, 0)) (by (with_reducible repeat (first | apply blk_drewN | apply blk_drew | apply blk_alloc)); exact BK242.out) hg (Kd.R_away HO248.out (fun _ hk => hk.2.2.2)))
                           have n3_ := Aside0.mk (Kd.R_after (ok := (fun k_ => some k_ ≠ (.slice Ao8 t232.length co8 : Value).ownBlock ∧ k_ ≠ gb238 ∧ k_ ≠ gb242)) (by (with_reducible repeat (first | apply Kd.R_alloc | apply Kd.R_drewN | apply Kd.R_drew)); exact Kd.R_mono HO251.out (fun _ hk => ⟨⟨hk.2.1, ⟨hk.2.2.1, hk.2.2.2⟩⟩, hk.1⟩)) hg hat)
                           have n4_ := Aside0.mk (hb)
                           have n5_ := Aside0.mk (ho)
                           clear HO_3
                           clear BK238
                           clear BK242
                           clear HO251
                           clear HB
                           clear HO248
                           have HO_3 := n0_
                           have BK238 := n1_
                           have BK242 := n2_
                           have HO251 := n3_
                           have HB := n4_
                           have HO254 := n5_
                           clear n0_ n1_ n2_ n3_ n4_ n5_
                           clear ho hb hg hat
                           refine hK.out _ _ ⟨(blk_cell BK238.out 0).trans rfl, (blk_cell BK238.out 1).trans rfl⟩ (fun hHeld => ?_)
                           clear hK K
                           refine norm_ (a' := ?_) ?_ ?_
                           rotate_left
                           · show Act.put _ (some 56) _ = _
                             simp only [Act.put, List.setIfInBounds_toArray, List.set_cons_zero, List.set_cons_succ, i64_w, i32_w]
                             rfl
                           exact norm_ (by first | (simp only [putAll, Act.put, List.setIfInBounds_toArray, List.set_cons_zero, List.set_cons_succ]; done) | (simp only [putAll, Act.put, List.setIfInBounds_toArray, List.set_cons_zero, List.set_cons_succ]; rfl)) (hJ0_2_4_5 (v244, v247, .slice Ao45 y249.length co45, v253) _ ⟨hHeld, (by (with_reducible repeat (first | apply Kd.R_alloc | apply Kd.R_drewN | apply Kd.R_drew)); exact Kd.R_mono HO251.out (fun _ hk => ⟨hk.2, ⟨hk.1.1, ⟨hk.1.2.1, hk.1.2.2⟩⟩⟩)), (by (with_reducible repeat (first | apply Kd.R_alloc | apply Kd.R_drewN | apply Kd.R_drew)); exact Kd.R_mono HO254.out (fun _ hk => ⟨hk.2.1, ⟨hk.1, ⟨hk.2.2.1, hk.2.2.2⟩⟩⟩)), (by (with_reducible repeat (first | apply Kd.R_alloc | apply Kd.R_drewN | apply Kd.R_drew)); exact Kd.R_mono HO_3.out (fun _ hk => ⟨hk.1.1, ⟨hk.2, ⟨hk.1.2.1, hk.1.2.2⟩⟩⟩)), (by (with_reducible repeat (first | apply blk_drewN | apply blk_drew | apply blk_alloc)); exact BK238.out), (by (with_reducible repeat (first | apply blk_drewN | apply blk_drew | apply blk_alloc)); exact BK242.out), (by repeat (first | (with_reducible first | exact HB.out | apply below_alloc | apply pw_below_drewN | apply below_drew1 | refine below_set ?_ GE238.out | refine below_set ?_ GE242.out) | exact HB.out))⟩)
                         · skip
                           refine box_step ?hg (N := 8) ?hd (cs := #[.int .i64 0, .int .i64 0]) (t := 26) ?hr ?_; (case hd => rfl); (case hg => rfl); (case hr => first | (go_simp; done) | (go_simp; rfl))
                           intro gb258 hg w44 hbox hb
                           have n0_ := Aside0.mk (Kd.R_below (Kd.R_elderB (by (with_reducible repeat (first | apply Kd.R_alloc | apply Kd.R_drewN | apply Kd.R_drew)); exact HO_3.out) gb258 (Nat.le_of_eq hg.symm)) hb)
                           have n1_ := Aside0.mk (Kd.R_below (Kd.R_elderB (by (with_reducible repeat (first | apply Kd.R_alloc | apply Kd.R_drewN | apply Kd.R_drew)); exact HO248.out) gb258 (Nat.le_of_eq hg.symm)) hb)
                           have n2_ := Aside0.mk (Kd.R_below (Kd.R_elderB (by (with_reducible repeat (first | apply Kd.R_alloc | apply Kd.R_drewN | apply Kd.R_drew)); exact HO251.out) gb258 (Nat.le_of_eq hg.symm)) hb)
                           have n3_ := Aside0.mk (blk_below (g := gb238) (o := .cells #[.int .i64 t235, .int .i64 t236] 26 (0, 0)) (by (with_reducible repeat (first | apply blk_drewN | apply blk_drew | apply blk_alloc)); exact BK238.out) hb)
                           have n4_ := Aside0.mk (blk_below (g := gb242) (o := .cells #[.int .i64 t239, .int .i64 t240] 26 (0, 0)) (by (with_reducible repeat (first | apply blk_drewN | apply blk_drew | apply blk_alloc)); exact BK242.out) hb)
                           have n5_ := Aside0.mk (below_step (by repeat (first | (with_reducible first | exact HB.out | apply below_alloc | apply pw_below_drewN | apply below_drew1 | refine below_set ?_ GE238.out | refine below_set ?_ GE242.out) | exact HB.out)) hb)
                           have n6_ := Aside0.mk (hbox)
                           have n7_ := Aside0.mk ((by rw [hg]; exact (below_size (by repeat (first | (with_reducible first | exact HB.out | apply below_alloc | apply pw_below_drewN | apply below_drew1 | refine below_set ?_ GE238.out | refine below_set ?_ GE242.out) | exact HB.out))) : w.heap.size ≤ gb258))
                           have n8_ := Aside0.mk ((by rw [hg]; exact (below_size (by repeat (first | (with_reducible first | exact HB.out | apply below_alloc | apply pw_below_drewN | apply below_drew1 | refine below_set ?_ GE238.out | refine below_set ?_ GE242.out) | exact HB.out))) : w.heap.size ≤ gb258))
                           have n9_ := Aside0.mk ((by rw [hg]; exact Nat.ne_of_lt (blk_lt (g := gb238) (o := .cells #[.int .i64 t235, .int .i64 t236] 26 (0, 0)) (by (with_reducible repeat (first | apply blk_drewN | apply blk_drew | apply blk_alloc)); exact BK238.out)) : gb238 ≠ gb258))
                           have n10_ := Aside0.mk ((by rw [hg]; exact Nat.ne_of_gt (blk_lt (g := gb238) (o := .cells #[.int .i64 t235, .int .i64 t236] 26 (0, 0)) (by (with_reducible repeat (first | apply blk_drewN | apply blk_drew | apply blk_alloc)); exact BK238.out)) : gb258 ≠ gb238))
                           have n11_ := Aside0.mk ((by rw [hg]; exact Nat.ne_of_lt (blk_lt (g := gb242) (o := .cells #[.int .i64 t239, .int .i64 t240] 26 (0, 0)) (by (with_reducible repeat (first | apply blk_drewN | apply blk_drew | apply blk_alloc)); exact BK242.out)) : gb242 ≠ gb258))
                           have n12_ := Aside0.mk ((by rw [hg]; exact Nat.ne_of_gt (blk_lt (g := gb242) (o := .cells #[.int .i64 t239, .int .i64 t240] 26 (0, 0)) (by (with_reducible repeat (first | apply blk_drewN | apply blk_drew | apply blk_alloc)); exact BK242.out)) : gb258 ≠ gb242))
                           clear HO_3
                           clear HO248
                           clear HO251
                           clear BK238
                           clear BK242
                           clear HB
                           have HO_3 := n0_
                           have HO248 := n1_
                           have HO251 := n2_
                           have BK238 := n3_
                           have BK242 := n4_
                           have HB := n5_
                           have BK258 := n6_
                           have GW258 := n7_
                           have GE258 := n8_
                           have NB238_258 := n9_
                           have NB258_238 := n10_
                           have NB242_258 := n11_
                           have NB258_242 := n12_
                           clear n0_ n1_ n2_ n3_ n4_ n5_ n6_ n7_ n8_ n9_ n10_ n11_ n12_
                           clear hb hbox hg
                           refine hK.out _ _ ⟨(blk_cell BK238.out 0).trans rfl, (blk_cell BK238.out 1).trans rfl⟩ (fun hHeld => ?_)
                           clear hK K
                           refine norm_ (a' := ?_) ?_ ?_
                           rotate_left
                           · show Act.put _ (some 8) _ = _
                             simp only [Act.put, List.setIfInBounds_toArray, List.set_cons_zero, List.set_cons_succ, i64_w, i32_w]
                             rfl
                           exact norm_ (by first | (simp only [putAll, Act.put, List.setIfInBounds_toArray, List.set_cons_zero, List.set_cons_succ]; done) | (simp only [putAll, Act.put, List.setIfInBounds_toArray, List.set_cons_zero, List.set_cons_succ]; rfl)) (hJ0_2_4_10 (v244, v247, .slice Ao45 y249.length co45, gb258) _ ⟨hHeld, (by (with_reducible repeat (first | apply Kd.R_alloc | apply Kd.R_drewN | apply Kd.R_drew)); exact Kd.R_mono HO248.out (fun _ hk => ⟨hk.1.1, ⟨hk.1.2.1, ⟨hk.1.2.2.1, ⟨hk.1.2.2.2, hk.2⟩⟩⟩⟩)), (by (with_reducible repeat (first | apply Kd.R_alloc | apply Kd.R_drewN | apply Kd.R_drew)); exact Kd.R_mono HO251.out (fun _ hk => ⟨hk.1.1, ⟨hk.1.2.1, ⟨hk.1.2.2.1, ⟨hk.1.2.2.2, hk.2⟩⟩⟩⟩)), (by (with_reducible repeat (first | apply Kd.R_alloc | apply Kd.R_drewN | apply Kd.R_drew)); exact Kd.R_mono HO_3.out (fun _ hk => ⟨hk.1.1, ⟨hk.1.2.1, ⟨hk.1.2.2.1, ⟨hk.1.2.2.2, hk.2⟩⟩⟩⟩)), (by (with_reducible repeat (first | apply blk_drewN | apply blk_drew | apply blk_alloc)); exact BK238.out), (by (with_reducible repeat (first | apply blk_drewN | apply blk_drew | apply blk_alloc)); exact BK242.out), (by (with_reducible repeat (first | apply blk_drewN | apply blk_drew | apply blk_alloc)); exact BK258.out), GW258.out, GE258.out, NB238_258.out, NB258_238.out, NB242_258.out, NB258_242.out, (by repeat (first | (with_reducible first | exact HB.out | apply below_alloc | apply pw_below_drewN | apply below_drew1 | refine below_set ?_ GE238.out | refine below_set ?_ GE242.out | refine below_set ?_ GE258.out) | exact HB.out))⟩)
                     · skip
                       rintro ⟨v244, v247, v250, gb258⟩ w44 ⟨hS_, h0_, h1_, h2_, h3_, h4_, h5_, h6_, h7_, h8_, h9_, h10_, h11_, h12_⟩
                       have n0_ : Aside0 (Kd.R k26 26 w44 w.heap.size (fun k_ => some k_ ≠ (v250 : Value).ownBlock ∧ some k_ ≠ (.slice Ao8 t232.length co8 : Value).ownBlock ∧ k_ ≠ gb238 ∧ k_ ≠ gb242 ∧ k_ ≠ gb258) v247 y246) := ⟨h0_⟩
                       have n1_ : Aside0 (Kd.R k26 26 w44 w.heap.size (fun k_ => some k_ ≠ (v247 : Value).ownBlock ∧ some k_ ≠ (.slice Ao8 t232.length co8 : Value).ownBlock ∧ k_ ≠ gb238 ∧ k_ ≠ gb242 ∧ k_ ≠ gb258) v250 y249) := ⟨h1_⟩
                       have n2_ : Aside0 (Kd.R k26 26 w44 w.heap.size (fun k_ => some k_ ≠ (v247 : Value).ownBlock ∧ some k_ ≠ (v250 : Value).ownBlock ∧ k_ ≠ gb238 ∧ k_ ≠ gb242 ∧ k_ ≠ gb258) (.slice Ao8 t232.length co8) t232) := ⟨h2_⟩
                       have n3_ : Aside0 (w44.heap[gb238]? = some (.cells #[.int .i64 t235, .int .i64 t236] 26 (0, 0))) := ⟨h3_⟩
                       have n4_ : Aside0 (w44.heap[gb242]? = some (.cells #[.int .i64 t239, .int .i64 t240] 26 (0, 0))) := ⟨h4_⟩
                       have n5_ : Aside0 (w44.heap[gb258]? = some (.cells #[.int .i64 0, .int .i64 0] 26 (0, 0))) := ⟨h5_⟩
                       have n6_ : Aside0 (w.heap.size ≤ gb258) := ⟨h6_⟩
                       have n7_ : Aside0 (w.heap.size ≤ gb258) := ⟨h7_⟩
                       have n8_ : Aside0 (gb238 ≠ gb258) := ⟨h8_⟩
                       have n9_ : Aside0 (gb258 ≠ gb238) := ⟨h9_⟩
                       have n10_ : Aside0 (gb242 ≠ gb258) := ⟨h10_⟩
                       have n11_ : Aside0 (gb258 ≠ gb242) := ⟨h11_⟩
                       have n12_ : Aside0 (Below w.heap.size w w44) := ⟨h12_⟩
                       clear HO_3
                       clear BK238
                       clear BK242
                       clear HB
                       clear h0_ h1_ h2_ h3_ h4_ h5_ h6_ h7_ h8_ h9_ h10_ h11_ h12_
                       have HO248 := n0_
                       have HO251 := n1_
                       have HO_3 := n2_
                       have BK238 := n3_
                       have BK242 := n4_
                       have BK258 := n5_
                       have GW258 := n6_
                       have GE258 := n7_
                       have NB238_258 := n8_
                       have NB258_238 := n9_
                       have NB242_258 := n10_
                       have NB258_242 := n11_
                       have HB := n12_
                       clear n0_ n1_ n2_ n3_ n4_ n5_ n6_ n7_ n8_ n9_ n10_ n11_ n12_
                       have hHeld : w44.cell? ⟨gb238, 0, none⟩ = some (.int .i64 t235) ∧ w44.cell? ⟨gb238, 1, none⟩ = some (.int .i64 t236) := hS_
                       obtain ⟨Ao46, co46, eo46⟩ := Kd.R_slice HO251.out
                       (first | subst eo46 | (injection eo46 with f1_ f2_ f3_; have f4_ := f1_.symm; have f5_ := f3_.symm; clear f1_ f2_ f3_; subst f4_; subst f5_))
                       refine norm_ (a' := ?_) ?_ ?_
                       rotate_left
                       · simp only [putAll, Act.put, List.setIfInBounds_toArray, List.set_cons_zero, List.set_cons_succ]
                         rfl
                       refine one_ (i := 5) (N := some 56) #[true, true, true, true, true, true, false, false, false, false, true, false, false] rfl rfl (one_of HT_.out (by kernel_rfl)) (by decide) (fun K hK => ?_)
                       refine Kd.R_append_rows_step k26 (w0 := w) w.heap.size (by rfl) (.tmp 53) (.tmp 55) 23 26 (.agg #[(.int .i64 0), (.int .i64 0)]) 16 rfl Try.underlying23 info26 rfl (by decide) (by omega) v247 y246 y249 _ _ _ (fun k_ => some k_ ≠ (.slice Ao8 t232.length co8 : Value).ownBlock ∧ some k_ ≠ (.slice Ao46 y249.length co46 : Value).ownBlock ∧ k_ ≠ gb238 ∧ k_ ≠ gb242 ∧ k_ ≠ gb258) (fun _ => False) rfl rfl ?aO ?aR (fun _ _ h => h) (fun _ h => h.elim) ?aF ?aB ?aS ?aL ?_
                       (case aR => repeat (first | exact (Kd.R_reads' HO251.out).2.2 | (with_reducible refine Kd.C_alloc ?_ _) | (with_reducible refine Kd.C_drewN ?_ _) | (with_reducible refine Kd.C_drew ?_)))
                       (case aB => exact (by repeat (first | (with_reducible first | exact HB.out | apply below_alloc | apply pw_below_drewN | apply below_drew1 | refine below_set ?_ GE238.out | refine below_set ?_ GE242.out | refine below_set ?_ GE258.out) | exact HB.out)))
                       (case aF => exact (fun k_ hk => ⟨Kd.fresh' (Kd.R_lt (by (with_reducible repeat (first | apply Kd.R_alloc | apply Kd.R_drewN | apply Kd.R_drew)); exact HO_3.out)) k_ hk, Kd.fresh' (Kd.R_lt (by (with_reducible repeat (first | apply Kd.R_alloc | apply Kd.R_drewN | apply Kd.R_drew)); exact HO251.out)) k_ hk, Kd.freshB (g := gb238) (o := .cells #[.int .i64 t235, .int .i64 t236] 26 (0, 0)) (by (with_reducible repeat (first | apply blk_drewN | apply blk_drew | apply blk_alloc)); exact BK238.out) k_ hk, Kd.freshB (g := gb242) (o := .cells #[.int .i64 t239, .int .i64 t240] 26 (0, 0)) (by (with_reducible repeat (first | apply blk_drewN | apply blk_drew | apply blk_alloc)); exact BK242.out) k_ hk, Kd.freshB (g := gb258) (o := .cells #[.int .i64 0, .int .i64 0] 26 (0, 0)) (by (with_reducible repeat (first | apply blk_drewN | apply blk_drew | apply blk_alloc)); exact BK258.out) k_ hk⟩))
                       (case aO => exact (by (with_reducible repeat (first | apply Kd.R_alloc | apply Kd.R_drewN | apply Kd.R_drew)); exact Kd.R_mono HO248.out (fun _ hk => ⟨hk.2.1, ⟨hk.1, ⟨hk.2.2.1, ⟨hk.2.2.2.1, hk.2.2.2.2⟩⟩⟩⟩)))
                       (case aS => exact (below_size (by repeat (first | (with_reducible first | exact HB.out | apply below_alloc | apply pw_below_drewN | apply below_drew1 | refine below_set ?_ GE238.out | refine below_set ?_ GE242.out | refine below_set ?_ GE258.out) | exact HB.out))))
                       (case aL => have := LMc34.out; omega)
                       intro v253 w45 ho hb hg hat
                       rw [← Ny252.out] at ho
                       have n0_ := Aside0.mk (Kd.R_after (ok := (fun k_ => some k_ ≠ (.slice Ao46 y249.length co46 : Value).ownBlock ∧ k_ ≠ gb238 ∧ k_ ≠ gb242 ∧ k_ ≠ gb258)) (by (with_reducible repeat (first | apply Kd.R_alloc | apply Kd.R_drewN | apply Kd.R_drew)); exact Kd.R_mono HO_3.out (fun _ hk => ⟨⟨hk.2.1, ⟨hk.2.2.1, ⟨hk.2.2.2.1, hk.2.2.2.2⟩⟩⟩, hk.1⟩)) hg hat)
                       have n1_ := Aside0.mk (blk_grown (g := gb238) (o := .cells #[.int .i64 t235, .int .i64 t236] 26 (0, 0)) (by (with_reducible repeat (first | apply blk_drewN | apply blk_drew | apply blk_alloc)); exact BK238.out) hg (Kd.R_away HO248.out (fun _ hk => hk.2.2.1)))
                       have n2_ := Aside0.mk (blk_grown (g := gb242) (o := .cells #[.int .i64 t239, .int .i64 t240] 26 (0, 0)) (by (with_reducible repeat (first | apply blk_drewN | apply blk_drew | apply blk_alloc)); exact BK242.out) hg (Kd.R_away HO248.out (fun _ hk => hk.2.2.2.1)))
                       have n3_ := Aside0.mk (Kd.R_after (ok := (fun k_ => some k_ ≠ (.slice Ao8 t232.length co8 : Value).ownBlock ∧ k_ ≠ gb238 ∧ k_ ≠ gb242 ∧ k_ ≠ gb258)) (by (with_reducible repeat (first | apply Kd.R_alloc | apply Kd.R_drewN | apply Kd.R_drew)); exact Kd.R_mono HO251.out (fun _ hk => ⟨⟨hk.2.1, ⟨hk.2.2.1, ⟨hk.2.2.2.1, hk.2.2.2.2⟩⟩⟩, hk.1⟩)) hg hat)
                       have n4_ := Aside0.mk (blk_grown (g := gb258) (o := .cells #[.int .i64 0, .int .i64 0] 26 (0, 0)) (by (with_reducible repeat (first | apply blk_drewN | apply blk_drew | apply blk_alloc)); exact BK258.out) hg (Kd.R_away HO248.out (fun _ hk => hk.2.2.2.2)))
                       have n5_ := Aside0.mk (hb)
                       have n6_ := Aside0.mk (ho)
                       clear HO_3
                       clear BK238
                       clear BK242
                       clear HO251
                       clear BK258
                       clear HB
                       clear HO248
                       have HO_3 := n0_
                       have BK238 := n1_
                       have BK242 := n2_
                       have HO251 := n3_
                       have BK258 := n4_
                       have HB := n5_
                       have HO254 := n6_
                       clear n0_ n1_ n2_ n3_ n4_ n5_ n6_
                       clear ho hb hg hat
                       refine hK.out _ _ ⟨(blk_cell BK238.out 0).trans rfl, (blk_cell BK238.out 1).trans rfl⟩ (fun hHeld => ?_)
                       clear hK K
                       refine norm_ (a' := ?_) ?_ ?_
                       rotate_left
                       · show Act.put _ (some 56) _ = _
                         simp only [Act.put, List.setIfInBounds_toArray, List.set_cons_zero, List.set_cons_succ, i64_w, i32_w]
                         rfl
                       exact norm_ (by first | (simp only [putAll, Act.put, List.setIfInBounds_toArray, List.set_cons_zero, List.set_cons_succ]; done) | (simp only [putAll, Act.put, List.setIfInBounds_toArray, List.set_cons_zero, List.set_cons_succ]; rfl)) (hJ0_2_4_5_10 (v244, v247, .slice Ao46 y249.length co46, v253, gb258) _ ⟨hHeld, (by (with_reducible repeat (first | apply Kd.R_alloc | apply Kd.R_drewN | apply Kd.R_drew)); exact Kd.R_mono HO251.out (fun _ hk => ⟨hk.2, ⟨hk.1.1, ⟨hk.1.2.1, ⟨hk.1.2.2.1, hk.1.2.2.2⟩⟩⟩⟩)), (by (with_reducible repeat (first | apply Kd.R_alloc | apply Kd.R_drewN | apply Kd.R_drew)); exact Kd.R_mono HO254.out (fun _ hk => ⟨hk.2.1, ⟨hk.1, ⟨hk.2.2.1, ⟨hk.2.2.2.1, hk.2.2.2.2⟩⟩⟩⟩)), (by (with_reducible repeat (first | apply Kd.R_alloc | apply Kd.R_drewN | apply Kd.R_drew)); exact Kd.R_mono HO_3.out (fun _ hk => ⟨hk.1.1, ⟨hk.2, ⟨hk.1.2.1, ⟨hk.1.2.2.1, hk.1.2.2.2⟩⟩⟩⟩)), (by (with_reducible repeat (first | apply blk_drewN | apply blk_drew | apply blk_alloc)); exact BK238.out), (by (with_reducible repeat (first | apply blk_drewN | apply blk_drew | apply blk_alloc)); exact BK242.out), (by (with_reducible repeat (first | apply blk_drewN | apply blk_drew | apply blk_alloc)); exact BK258.out), GW258.out, GE258.out, NB238_258.out, NB258_238.out, NB242_258.out, NB258_242.out, (by repeat (first | (with_reducible first | exact HB.out | apply below_alloc | apply pw_below_drewN | apply below_drew1 | refine below_set ?_ GE238.out | refine below_set ?_ GE242.out | refine below_set ?_ GE258.out) | exact HB.out))⟩)
                   · skip
                     rintro ⟨v244, v247, v250, v253⟩ w45 ⟨hS_, h0_, h1_, h2_, h3_, h4_, h5_⟩
                     have n0_ : Aside0 (Kd.R k26 26 w45 w.heap.size (fun k_ => some k_ ≠ (v253 : Value).ownBlock ∧ some k_ ≠ (.slice Ao8 t232.length co8 : Value).ownBlock ∧ k_ ≠ gb238 ∧ k_ ≠ gb242) v250 y249) := ⟨h0_⟩
                     have n1_ : Aside0 (Kd.R k26 26 w45 w.heap.size (fun k_ => some k_ ≠ (v250 : Value).ownBlock ∧ some k_ ≠ (.slice Ao8 t232.length co8 : Value).ownBlock ∧ k_ ≠ gb238 ∧ k_ ≠ gb242) v253 y252) := ⟨h1_⟩
                     have n2_ : Aside0 (Kd.R k26 26 w45 w.heap.size (fun k_ => some k_ ≠ (v250 : Value).ownBlock ∧ some k_ ≠ (v253 : Value).ownBlock ∧ k_ ≠ gb238 ∧ k_ ≠ gb242) (.slice Ao8 t232.length co8) t232) := ⟨h2_⟩
                     have n3_ : Aside0 (w45.heap[gb238]? = some (.cells #[.int .i64 t235, .int .i64 t236] 26 (0, 0))) := ⟨h3_⟩
                     have n4_ : Aside0 (w45.heap[gb242]? = some (.cells #[.int .i64 t239, .int .i64 t240] 26 (0, 0))) := ⟨h4_⟩
                     have n5_ : Aside0 (Below w.heap.size w w45) := ⟨h5_⟩
                     clear HO_3
                     clear BK238
                     clear BK242
                     clear HB
                     clear h0_ h1_ h2_ h3_ h4_ h5_
                     have HO251 := n0_
                     have HO254 := n1_
                     have HO_3 := n2_
                     have BK238 := n3_
                     have BK242 := n4_
                     have HB := n5_
                     clear n0_ n1_ n2_ n3_ n4_ n5_
                     have hHeld : w45.cell? ⟨gb238, 0, none⟩ = some (.int .i64 t235) ∧ w45.cell? ⟨gb238, 1, none⟩ = some (.int .i64 t236) := hS_
                     obtain ⟨Ao46, co46, eo46⟩ := Kd.R_slice HO254.out
                     (first | subst eo46 | (injection eo46 with f1_ f2_ f3_; have f4_ := f1_.symm; have f5_ := f3_.symm; clear f1_ f2_ f3_; subst f4_; subst f5_))
                     refine norm_ (a' := ?_) ?_ ?_
                     rotate_left
                     · simp only [putAll, Act.put, List.setIfInBounds_toArray, List.set_cons_zero, List.set_cons_succ]
                       rfl
                     refine two_ (i := 6) (j := 10) (Ni := some 57) (Nj := some 8) #[true, true, true, true, true, true, true, false, false, false, false, false, false] #[true, true, true, true, true, true, false, false, false, false, true, false, false] rfl rfl rfl rfl (two_of HT_.out (by kernel_rfl)) (by decide) (by decide) (fun K hK => ?_) (fun K hK => ?_)
                     · skip
                       refine goes_ Try.func14 (by kernel_rfl) rfl #[.slice Ao46 y252.length co46] (by rfl) rfl rfl (by (try simp only [List.map_toArray, List.map_cons, List.map_nil]); first | done | rfl | (simp only [List.length_drop, List.length_take]; rfl)) ?_
                       with_reducible refine (impl_AgreedSpan.calls kj5 _ _ y252 t255 t256 true _ ?side1 ?side2 A35.out).mono ?_
                       (case side1 => repeat (first | exact (Kd.R_reads' HO254.out).2.2 | (with_reducible refine Kd.C_alloc ?_ _) | (with_reducible refine Kd.C_drewN ?_ _) | (with_reducible refine Kd.C_drew ?_)))
                       (case side2 => exact (Kd.R_reads' HO254.out).2.1)
                       rintro e w47 ⟨rfl, hb⟩
                       refine ⟨_, rfl, ?_⟩
                       have n0_ := Aside0.mk (Kd.R_below (by (with_reducible repeat (first | apply Kd.R_alloc | apply Kd.R_drewN | apply Kd.R_drew)); exact HO_3.out) hb)
                       have n1_ := Aside0.mk (Kd.R_below (by (with_reducible repeat (first | apply Kd.R_alloc | apply Kd.R_drewN | apply Kd.R_drew)); exact HO251.out) hb)
                       have n2_ := Aside0.mk (Kd.R_below (by (with_reducible repeat (first | apply Kd.R_alloc | apply Kd.R_drewN | apply Kd.R_drew)); exact HO254.out) hb)
                       have n3_ := Aside0.mk (blk_below (g := gb238) (o := .cells #[.int .i64 t235, .int .i64 t236] 26 (0, 0)) (by (with_reducible repeat (first | apply blk_drewN | apply blk_drew | apply blk_alloc)); exact BK238.out) hb)
                       have n4_ := Aside0.mk (blk_below (g := gb242) (o := .cells #[.int .i64 t239, .int .i64 t240] 26 (0, 0)) (by (with_reducible repeat (first | apply blk_drewN | apply blk_drew | apply blk_alloc)); exact BK242.out) hb)
                       have n5_ := Aside0.mk (below_step (by repeat (first | (with_reducible first | exact HB.out | apply below_alloc | apply pw_below_drewN | apply below_drew1 | refine below_set ?_ GE238.out | refine below_set ?_ GE242.out) | exact HB.out)) hb)
                       clear HO_3
                       clear HO251
                       clear HO254
                       clear BK238
                       clear BK242
                       clear HB
                       have HO_3 := n0_
                       have HO251 := n1_
                       have HO254 := n2_
                       have BK238 := n3_
                       have BK242 := n4_
                       have HB := n5_
                       clear n0_ n1_ n2_ n3_ n4_ n5_
                       (try clear hb)
                       (try clear hb2)
                       (try clear hk)
                       (try clear hi)
                       refine hK.out _ _ ⟨(blk_cell BK238.out 0).trans rfl, (blk_cell BK238.out 1).trans rfl⟩ (fun hHeld => ?_)
                       clear hK K
                       refine norm_ (a' := ?_) ?_ ?_
                       rotate_left
                       · show Act.put _ (some 57) _ = _
                         simp only [Act.put, List.setIfInBounds_toArray, List.set_cons_zero, List.set_cons_succ, i64_w, i32_w]
                         rfl
                       refine pure_ (i := 7) (N := some 50) (v := ?_) (a' := ?_) #[true, true, true, true, true, true, true, true, false, false, false, false, false] rfl rfl (any_of HT_.out (by kernel_rfl)) (fun _ _ _ h => h) (Or.inl ⟨by rfl, ?_⟩) ?_ ?_
                       rotate_left
                       · intro w'
                         go_simp
                         with_reducible rfl
                       rotate_left
                       · simp only [Act.put, List.setIfInBounds_toArray, List.set_cons_zero, List.set_cons_succ, i64_w, i32_w]
                         rfl
                       refine pure_ (i := 8) (N := some 58) (v := ?_) (a' := ?_) #[true, true, true, true, true, true, true, true, true, false, false, false, false] rfl rfl (any_of HT_.out (by kernel_rfl)) (fun _ _ _ h => h) (Or.inl ⟨by rfl, ?_⟩) ?_ ?_
                       rotate_left
                       · intro w'
                         go_simp
                         with_reducible rfl
                       rotate_left
                       · simp only [Act.put, List.setIfInBounds_toArray, List.set_cons_zero, List.set_cons_succ, i64_w, i32_w]
                         rfl
                       refine pure_ (i := 9) (N := some 59) (v := ?_) (a' := ?_) #[true, true, true, true, true, true, true, true, true, true, false, false, false] rfl rfl (any_of HT_.out (by kernel_rfl)) (fun _ _ _ h => h) (Or.inl ⟨by rfl, ?_⟩) ?_ ?_
                       rotate_left
                       · intro w'
                         go_simp
                         with_reducible rfl
                       rotate_left
                       · simp only [Act.put, List.setIfInBounds_toArray, List.set_cons_zero, List.set_cons_succ, i64_w, i32_w]
                         rfl
                       exact norm_ (by first | (simp only [putAll, Act.put, List.setIfInBounds_toArray, List.set_cons_zero, List.set_cons_succ]; done) | (simp only [putAll, Act.put, List.setIfInBounds_toArray, List.set_cons_zero, List.set_cons_succ]; rfl)) (hJ0_2_4_5_6 (v244, v247, v250, .slice Ao46 y252.length co46) _ ⟨hHeld, (by (with_reducible repeat (first | apply Kd.R_alloc | apply Kd.R_drewN | apply Kd.R_drew)); exact HO251.out), (by (with_reducible repeat (first | apply Kd.R_alloc | apply Kd.R_drewN | apply Kd.R_drew)); exact HO254.out), (by (with_reducible repeat (first | apply Kd.R_alloc | apply Kd.R_drewN | apply Kd.R_drew)); exact HO_3.out), (by (with_reducible repeat (first | apply blk_drewN | apply blk_drew | apply blk_alloc)); exact BK238.out), (by (with_reducible repeat (first | apply blk_drewN | apply blk_drew | apply blk_alloc)); exact BK242.out), (by repeat (first | (with_reducible first | exact HB.out | apply below_alloc | apply pw_below_drewN | apply below_drew1 | refine below_set ?_ GE238.out | refine below_set ?_ GE242.out) | exact HB.out))⟩)
                     · skip
                       refine box_step ?hg (N := 8) ?hd (cs := #[.int .i64 0, .int .i64 0]) (t := 26) ?hr ?_; (case hd => rfl); (case hg => rfl); (case hr => first | (go_simp; done) | (go_simp; rfl))
                       intro gb258 hg w46 hbox hb
                       have n0_ := Aside0.mk (Kd.R_below (Kd.R_elderB (by (with_reducible repeat (first | apply Kd.R_alloc | apply Kd.R_drewN | apply Kd.R_drew)); exact HO_3.out) gb258 (Nat.le_of_eq hg.symm)) hb)
                       have n1_ := Aside0.mk (Kd.R_below (Kd.R_elderB (by (with_reducible repeat (first | apply Kd.R_alloc | apply Kd.R_drewN | apply Kd.R_drew)); exact HO251.out) gb258 (Nat.le_of_eq hg.symm)) hb)
                       have n2_ := Aside0.mk (Kd.R_below (Kd.R_elderB (by (with_reducible repeat (first | apply Kd.R_alloc | apply Kd.R_drewN | apply Kd.R_drew)); exact HO254.out) gb258 (Nat.le_of_eq hg.symm)) hb)
                       have n3_ := Aside0.mk (blk_below (g := gb238) (o := .cells #[.int .i64 t235, .int .i64 t236] 26 (0, 0)) (by (with_reducible repeat (first | apply blk_drewN | apply blk_drew | apply blk_alloc)); exact BK238.out) hb)
                       have n4_ := Aside0.mk (blk_below (g := gb242) (o := .cells #[.int .i64 t239, .int .i64 t240] 26 (0, 0)) (by (with_reducible repeat (first | apply blk_drewN | apply blk_drew | apply blk_alloc)); exact BK242.out) hb)
                       have n5_ := Aside0.mk (below_step (by repeat (first | (with_reducible first | exact HB.out | apply below_alloc | apply pw_below_drewN | apply below_drew1 | refine below_set ?_ GE238.out | refine below_set ?_ GE242.out) | exact HB.out)) hb)
                       have n6_ := Aside0.mk (hbox)
                       have n7_ := Aside0.mk ((by rw [hg]; exact (below_size (by repeat (first | (with_reducible first | exact HB.out | apply below_alloc | apply pw_below_drewN | apply below_drew1 | refine below_set ?_ GE238.out | refine below_set ?_ GE242.out) | exact HB.out))) : w.heap.size ≤ gb258))
                       have n8_ := Aside0.mk ((by rw [hg]; exact (below_size (by repeat (first | (with_reducible first | exact HB.out | apply below_alloc | apply pw_below_drewN | apply below_drew1 | refine below_set ?_ GE238.out | refine below_set ?_ GE242.out) | exact HB.out))) : w.heap.size ≤ gb258))
                       have n9_ := Aside0.mk ((by rw [hg]; exact Nat.ne_of_lt (blk_lt (g := gb238) (o := .cells #[.int .i64 t235, .int .i64 t236] 26 (0, 0)) (by (with_reducible repeat (first | apply blk_drewN | apply blk_drew | apply blk_alloc)); exact BK238.out)) : gb238 ≠ gb258))
                       have n10_ := Aside0.mk ((by rw [hg]; exact Nat.ne_of_gt (blk_lt (g := gb238) (o := .cells #[.int .i64 t235, .int .i64 t236] 26 (0, 0)) (by (with_reducible repeat (first | apply blk_drewN | apply blk_drew | apply blk_alloc)); exact BK238.out)) : gb258 ≠ gb238))
                       have n11_ := Aside0.mk ((by rw [hg]; exact Nat.ne_of_lt (blk_lt (g := gb242) (o := .cells #[.int .i64 t239, .int .i64 t240] 26 (0, 0)) (by (with_reducible repeat (first | apply blk_drewN | apply blk_drew | apply blk_alloc)); exact BK242.out)) : gb242 ≠ gb258))
                       have n12_ := Aside0.mk ((by rw [hg]; exact Nat.ne_of_gt (blk_lt (g := gb242) (o := .cells #[.int .i64 t239, .int .i64 t240] 26 (0, 0)) (by (with_reducible repeat (first | apply blk_drewN | apply blk_drew | apply blk_alloc)); exact BK242.out)) : gb258 ≠ gb242))
                       clear HO_3
                       clear HO251
                       clear HO254
                       clear BK238
                       clear BK242
                       clear HB
                       have HO_3 := n0_
                       have HO251 := n1_
                       have HO254 := n2_
                       have BK238 := n3_
                       have BK242 := n4_
                       have HB := n5_
                       have BK258 := n6_
                       have GW258 := n7_
                       have GE258 := n8_
                       have NB238_258 := n9_
                       have NB258_238 := n10_
                       have NB242_258 := n11_
                       have NB258_242 := n12_
                       clear n0_ n1_ n2_ n3_ n4_ n5_ n6_ n7_ n8_ n9_ n10_ n11_ n12_
                       clear hb hbox hg
                       refine hK.out _ _ ⟨(blk_cell BK238.out 0).trans rfl, (blk_cell BK238.out 1).trans rfl⟩ (fun hHeld => ?_)
                       clear hK K
                       refine norm_ (a' := ?_) ?_ ?_
                       rotate_left
                       · show Act.put _ (some 8) _ = _
                         simp only [Act.put, List.setIfInBounds_toArray, List.set_cons_zero, List.set_cons_succ, i64_w, i32_w]
                         rfl
                       exact norm_ (by first | (simp only [putAll, Act.put, List.setIfInBounds_toArray, List.set_cons_zero, List.set_cons_succ]; done) | (simp only [putAll, Act.put, List.setIfInBounds_toArray, List.set_cons_zero, List.set_cons_succ]; rfl)) (hJ0_2_4_5_10 (v244, v247, v250, .slice Ao46 y252.length co46, gb258) _ ⟨hHeld, (by (with_reducible repeat (first | apply Kd.R_alloc | apply Kd.R_drewN | apply Kd.R_drew)); exact Kd.R_mono HO251.out (fun _ hk => ⟨hk.1.1, ⟨hk.1.2.1, ⟨hk.1.2.2.1, ⟨hk.1.2.2.2, hk.2⟩⟩⟩⟩)), (by (with_reducible repeat (first | apply Kd.R_alloc | apply Kd.R_drewN | apply Kd.R_drew)); exact Kd.R_mono HO254.out (fun _ hk => ⟨hk.1.1, ⟨hk.1.2.1, ⟨hk.1.2.2.1, ⟨hk.1.2.2.2, hk.2⟩⟩⟩⟩)), (by (with_reducible repeat (first | apply Kd.R_alloc | apply Kd.R_drewN | apply Kd.R_drew)); exact Kd.R_mono HO_3.out (fun _ hk => ⟨hk.1.1, ⟨hk.1.2.1, ⟨hk.1.2.2.1, ⟨hk.1.2.2.2, hk.2⟩⟩⟩⟩)), (by (with_reducible repeat (first | apply blk_drewN | apply blk_drew | apply blk_alloc)); exact BK238.out), (by (with_reducible repeat (first | apply blk_drewN | apply blk_drew | apply blk_alloc)); exact BK242.out), (by (with_reducible repeat (first | apply blk_drewN | apply blk_drew | apply blk_alloc)); exact BK258.out), GW258.out, GE258.out, NB238_258.out, NB258_238.out, NB242_258.out, NB258_242.out, (by repeat (first | (with_reducible first | exact HB.out | apply below_alloc | apply pw_below_drewN | apply below_drew1 | refine below_set ?_ GE238.out | refine below_set ?_ GE242.out | refine below_set ?_ GE258.out) | exact HB.out))⟩)
                 · skip
                   rintro ⟨v244, v247, v250, v253, gb258⟩ w46 ⟨hS_, h0_, h1_, h2_, h3_, h4_, h5_, h6_, h7_, h8_, h9_, h10_, h11_, h12_⟩
                   have n0_ : Aside0 (Kd.R k26 26 w46 w.heap.size (fun k_ => some k_ ≠ (v253 : Value).ownBlock ∧ some k_ ≠ (.slice Ao8 t232.length co8 : Value).ownBlock ∧ k_ ≠ gb238 ∧ k_ ≠ gb242 ∧ k_ ≠ gb258) v250 y249) := ⟨h0_⟩
                   have n1_ : Aside0 (Kd.R k26 26 w46 w.heap.size (fun k_ => some k_ ≠ (v250 : Value).ownBlock ∧ some k_ ≠ (.slice Ao8 t232.length co8 : Value).ownBlock ∧ k_ ≠ gb238 ∧ k_ ≠ gb242 ∧ k_ ≠ gb258) v253 y252) := ⟨h1_⟩
                   have n2_ : Aside0 (Kd.R k26 26 w46 w.heap.size (fun k_ => some k_ ≠ (v250 : Value).ownBlock ∧ some k_ ≠ (v253 : Value).ownBlock ∧ k_ ≠ gb238 ∧ k_ ≠ gb242 ∧ k_ ≠ gb258) (.slice Ao8 t232.length co8) t232) := ⟨h2_⟩
                   have n3_ : Aside0 (w46.heap[gb238]? = some (.cells #[.int .i64 t235, .int .i64 t236] 26 (0, 0))) := ⟨h3_⟩
                   have n4_ : Aside0 (w46.heap[gb242]? = some (.cells #[.int .i64 t239, .int .i64 t240] 26 (0, 0))) := ⟨h4_⟩
                   have n5_ : Aside0 (w46.heap[gb258]? = some (.cells #[.int .i64 0, .int .i64 0] 26 (0, 0))) := ⟨h5_⟩
                   have n6_ : Aside0 (w.heap.size ≤ gb258) := ⟨h6_⟩
                   have n7_ : Aside0 (w.heap.size ≤ gb258) := ⟨h7_⟩
                   have n8_ : Aside0 (gb238 ≠ gb258) := ⟨h8_⟩
                   have n9_ : Aside0 (gb258 ≠ gb238) := ⟨h9_⟩
                   have n10_ : Aside0 (gb242 ≠ gb258) := ⟨h10_⟩
                   have n11_ : Aside0 (gb258 ≠ gb242) := ⟨h11_⟩
                   have n12_ : Aside0 (Below w.heap.size w w46) := ⟨h12_⟩
                   clear HO_3
                   clear BK238
                   clear BK242
                   clear HB
                   clear h0_ h1_ h2_ h3_ h4_ h5_ h6_ h7_ h8_ h9_ h10_ h11_ h12_
                   have HO251 := n0_
                   have HO254 := n1_
                   have HO_3 := n2_
                   have BK238 := n3_
                   have BK242 := n4_
                   have BK258 := n5_
                   have GW258 := n6_
                   have GE258 := n7_
                   have NB238_258 := n8_
                   have NB258_238 := n9_
                   have NB242_258 := n10_
                   have NB258_242 := n11_
                   have HB := n12_
                   clear n0_ n1_ n2_ n3_ n4_ n5_ n6_ n7_ n8_ n9_ n10_ n11_ n12_
                   have hHeld : w46.cell? ⟨gb238, 0, none⟩ = some (.int .i64 t235) ∧ w46.cell? ⟨gb238, 1, none⟩ = some (.int .i64 t236) := hS_
                   obtain ⟨Ao47, co47, eo47⟩ := Kd.R_slice HO254.out
                   (first | subst eo47 | (injection eo47 with f1_ f2_ f3_; have f4_ := f1_.symm; have f5_ := f3_.symm; clear f1_ f2_ f3_; subst f4_; subst f5_))
                   refine norm_ (a' := ?_) ?_ ?_
                   rotate_left
                   · simp only [putAll, Act.put, List.setIfInBounds_toArray, List.set_cons_zero, List.set_cons_succ]
                     rfl
                   refine one_ (i := 6) (N := some 57) #[true, true, true, true, true, true, true, false, false, false, true, false, false] rfl rfl (one_of HT_.out (by kernel_rfl)) (by decide) (fun K hK => ?_)
                   refine goes_ Try.func14 (by kernel_rfl) rfl #[.slice Ao47 y252.length co47] (by rfl) rfl rfl (by (try simp only [List.map_toArray, List.map_cons, List.map_nil]); first | done | rfl | (simp only [List.length_drop, List.length_take]; rfl)) ?_
                   with_reducible refine (impl_AgreedSpan.calls kj5 _ _ y252 t255 t256 true _ ?side1 ?side2 A35.out).mono ?_
                   (case side1 => repeat (first | exact (Kd.R_reads' HO254.out).2.2 | (with_reducible refine Kd.C_alloc ?_ _) | (with_reducible refine Kd.C_drewN ?_ _) | (with_reducible refine Kd.C_drew ?_)))
                   (case side2 => exact (Kd.R_reads' HO254.out).2.1)
                   rintro e w48 ⟨rfl, hb⟩
                   refine ⟨_, rfl, ?_⟩
                   have n0_ := Aside0.mk (Kd.R_below (by (with_reducible repeat (first | apply Kd.R_alloc | apply Kd.R_drewN | apply Kd.R_drew)); exact HO_3.out) hb)
                   have n1_ := Aside0.mk (Kd.R_below (by (with_reducible repeat (first | apply Kd.R_alloc | apply Kd.R_drewN | apply Kd.R_drew)); exact HO251.out) hb)
                   have n2_ := Aside0.mk (Kd.R_below (by (with_reducible repeat (first | apply Kd.R_alloc | apply Kd.R_drewN | apply Kd.R_drew)); exact HO254.out) hb)
                   have n3_ := Aside0.mk (blk_below (g := gb238) (o := .cells #[.int .i64 t235, .int .i64 t236] 26 (0, 0)) (by (with_reducible repeat (first | apply blk_drewN | apply blk_drew | apply blk_alloc)); exact BK238.out) hb)
                   have n4_ := Aside0.mk (blk_below (g := gb242) (o := .cells #[.int .i64 t239, .int .i64 t240] 26 (0, 0)) (by (with_reducible repeat (first | apply blk_drewN | apply blk_drew | apply blk_alloc)); exact BK242.out) hb)
                   have n5_ := Aside0.mk (blk_below (g := gb258) (o := .cells #[.int .i64 0, .int .i64 0] 26 (0, 0)) (by (with_reducible repeat (first | apply blk_drewN | apply blk_drew | apply blk_alloc)); exact BK258.out) hb)
                   have n6_ := Aside0.mk (below_step (by repeat (first | (with_reducible first | exact HB.out | apply below_alloc | apply pw_below_drewN | apply below_drew1 | refine below_set ?_ GE238.out | refine below_set ?_ GE242.out | refine below_set ?_ GE258.out) | exact HB.out)) hb)
                   clear HO_3
                   clear HO251
                   clear HO254
                   clear BK238
                   clear BK242
                   clear BK258
                   clear HB
                   have HO_3 := n0_
                   have HO251 := n1_
                   have HO254 := n2_
                   have BK238 := n3_
                   have BK242 := n4_
                   have BK258 := n5_
                   have HB := n6_
                   clear n0_ n1_ n2_ n3_ n4_ n5_ n6_
                   (try clear hb)
                   (try clear hb2)
                   (try clear hk)
                   (try clear hi)
                   refine hK.out _ _ ⟨(blk_cell BK238.out 0).trans rfl, (blk_cell BK238.out 1).trans rfl⟩ (fun hHeld => ?_)
                   clear hK K
                   refine norm_ (a' := ?_) ?_ ?_
                   rotate_left
                   · show Act.put _ (some 57) _ = _
                     simp only [Act.put, List.setIfInBounds_toArray, List.set_cons_zero, List.set_cons_succ, i64_w, i32_w]
                     rfl
                   refine pure_ (i := 7) (N := some 50) (v := ?_) (a' := ?_) #[true, true, true, true, true, true, true, true, false, false, true, false, false] rfl rfl (any_of HT_.out (by kernel_rfl)) (fun _ _ _ h => h) (Or.inl ⟨by rfl, ?_⟩) ?_ ?_
                   rotate_left
                   · intro w'
                     go_simp
                     with_reducible rfl
                   rotate_left
                   · simp only [Act.put, List.setIfInBounds_toArray, List.set_cons_zero, List.set_cons_succ, i64_w, i32_w]
                     rfl
                   refine pure_ (i := 8) (N := some 58) (v := ?_) (a' := ?_) #[true, true, true, true, true, true, true, true, true, false, true, false, false] rfl rfl (any_of HT_.out (by kernel_rfl)) (fun _ _ _ h => h) (Or.inl ⟨by rfl, ?_⟩) ?_ ?_
                   rotate_left
                   · intro w'
                     go_simp
                     with_reducible rfl
                   rotate_left
                   · simp only [Act.put, List.setIfInBounds_toArray, List.set_cons_zero, List.set_cons_succ, i64_w, i32_w]
                     rfl
                   refine pure_ (i := 9) (N := some 59) (v := ?_) (a' := ?_) #[true, true, true, true, true, true, true, true, true, true, true, false, false] rfl rfl (any_of HT_.out (by kernel_rfl)) (fun _ _ _ h => h) (Or.inl ⟨by rfl, ?_⟩) ?_ ?_
                   rotate_left
                   · intro w'
                     go_simp
                     with_reducible rfl
                   rotate_left
                   · simp only [Act.put, List.setIfInBounds_toArray, List.set_cons_zero, List.set_cons_succ, i64_w, i32_w]
                     rfl
                   exact norm_ (by first | (simp only [putAll, Act.put, List.setIfInBounds_toArray, List.set_cons_zero, List.set_cons_succ]; done) | (simp only [putAll, Act.put, List.setIfInBounds_toArray, List.set_cons_zero, List.set_cons_succ]; rfl)) (hJ0_2_4_5_6_10 (v244, v247, v250, .slice Ao47 y252.length co47, gb258) _ ⟨hHeld, (by (with_reducible repeat (first | apply Kd.R_alloc | apply Kd.R_drewN | apply Kd.R_drew)); exact HO251.out), (by (with_reducible repeat (first | apply Kd.R_alloc | apply Kd.R_drewN | apply Kd.R_drew)); exact HO254.out), (by (with_reducible repeat (first | apply Kd.R_alloc | apply Kd.R_drewN | apply Kd.R_drew)); exact HO_3.out), (by (with_reducible repeat (first | apply blk_drewN | apply blk_drew | apply blk_alloc)); exact BK238.out), (by (with_reducible repeat (first | apply blk_drewN | apply blk_drew | apply blk_alloc)); exact BK242.out), (by (with_reducible repeat (first | apply blk_drewN | apply blk_drew | apply blk_alloc)); exact BK258.out), GW258.out, GE258.out, NB238_258.out, NB258_238.out, NB242_258.out, NB258_242.out, (by repeat (first | (with_reducible first | exact HB.out | apply below_alloc | apply pw_below_drewN | apply below_drew1 | refine below_set ?_ GE238.out | refine below_set ?_ GE242.out | refine below_set ?_ GE258.out) | exact HB.out))⟩)
               · skip
                 rintro ⟨v244, v247, v250, v253⟩ w47 ⟨hS_, h0_, h1_, h2_, h3_, h4_, h5_⟩
                 have n0_ : Aside0 (Kd.R k26 26 w47 w.heap.size (fun k_ => some k_ ≠ (v253 : Value).ownBlock ∧ some k_ ≠ (.slice Ao8 t232.length co8 : Value).ownBlock ∧ k_ ≠ gb238 ∧ k_ ≠ gb242) v250 y249) := ⟨h0_⟩
                 have n1_ : Aside0 (Kd.R k26 26 w47 w.heap.size (fun k_ => some k_ ≠ (v250 : Value).ownBlock ∧ some k_ ≠ (.slice Ao8 t232.length co8 : Value).ownBlock ∧ k_ ≠ gb238 ∧ k_ ≠ gb242) v253 y252) := ⟨h1_⟩
                 have n2_ : Aside0 (Kd.R k26 26 w47 w.heap.size (fun k_ => some k_ ≠ (v250 : Value).ownBlock ∧ some k_ ≠ (v253 : Value).ownBlock ∧ k_ ≠ gb238 ∧ k_ ≠ gb242) (.slice Ao8 t232.length co8) t232) := ⟨h2_⟩
                 have n3_ : Aside0 (w47.heap[gb238]? = some (.cells #[.int .i64 t235, .int .i64 t236] 26 (0, 0))) := ⟨h3_⟩
                 have n4_ : Aside0 (w47.heap[gb242]? = some (.cells #[.int .i64 t239, .int .i64 t240] 26 (0, 0))) := ⟨h4_⟩
                 have n5_ : Aside0 (Below w.heap.size w w47) := ⟨h5_⟩
                 clear HO_3
                 clear BK238
                 clear BK242
                 clear HB
                 clear h0_ h1_ h2_ h3_ h4_ h5_
                 have HO251 := n0_
                 have HO254 := n1_
                 have HO_3 := n2_
                 have BK238 := n3_
                 have BK242 := n4_
                 have HB := n5_
                 clear n0_ n1_ n2_ n3_ n4_ n5_
                 have hHeld : w47.cell? ⟨gb238, 0, none⟩ = some (.int .i64 t235) ∧ w47.cell? ⟨gb238, 1, none⟩ = some (.int .i64 t236) := hS_
                 refine norm_ (a' := ?_) ?_ ?_
                 rotate_left
                 · simp only [putAll, Act.put, List.setIfInBounds_toArray, List.set_cons_zero, List.set_cons_succ]
                   rfl
                 refine one_ (i := 10) (N := some 8) #[true, true, true, true, true, true, true, true, true, true, true, false, false] rfl rfl (one_of HT_.out (by kernel_rfl)) (by decide) (fun K hK => ?_)
                 refine box_step ?hg (N := 8) ?hd (cs := #[.int .i64 0, .int .i64 0]) (t := 26) ?hr ?_; (case hd => rfl); (case hg => rfl); (case hr => first | (go_simp; done) | (go_simp; rfl))
                 intro gb258 hg w48 hbox hb
                 have n0_ := Aside0.mk (Kd.R_below (Kd.R_elderB (by (with_reducible repeat (first | apply Kd.R_alloc | apply Kd.R_drewN | apply Kd.R_drew)); exact HO_3.out) gb258 (Nat.le_of_eq hg.symm)) hb)
                 have n1_ := Aside0.mk (Kd.R_below (Kd.R_elderB (by (with_reducible repeat (first | apply Kd.R_alloc | apply Kd.R_drewN | apply Kd.R_drew)); exact HO251.out) gb258 (Nat.le_of_eq hg.symm)) hb)
                 have n2_ := Aside0.mk (Kd.R_below (Kd.R_elderB (by (with_reducible repeat (first | apply Kd.R_alloc | apply Kd.R_drewN | apply Kd.R_drew)); exact HO254.out) gb258 (Nat.le_of_eq hg.symm)) hb)
                 have n3_ := Aside0.mk (blk_below (g := gb238) (o := .cells #[.int .i64 t235, .int .i64 t236] 26 (0, 0)) (by (with_reducible repeat (first | apply blk_drewN | apply blk_drew | apply blk_alloc)); exact BK238.out) hb)
                 have n4_ := Aside0.mk (blk_below (g := gb242) (o := .cells #[.int .i64 t239, .int .i64 t240] 26 (0, 0)) (by (with_reducible repeat (first | apply blk_drewN | apply blk_drew | apply blk_alloc)); exact BK242.out) hb)
                 have n5_ := Aside0.mk (below_step (by repeat (first | (with_reducible first | exact HB.out | apply below_alloc | apply pw_below_drewN | apply below_drew1 | refine below_set ?_ GE238.out | refine below_set ?_ GE242.out) | exact HB.out)) hb)
                 have n6_ := Aside0.mk (hbox)
                 have n7_ := Aside0.mk ((by rw [hg]; exact (below_size (by repeat (first | (with_reducible first | exact HB.out | apply below_alloc | apply pw_below_drewN | apply below_drew1 | refine below_set ?_ GE238.out | refine below_set ?_ GE242.out) | exact HB.out))) : w.heap.size ≤ gb258))
                 have n8_ := Aside0.mk ((by rw [hg]; exact (below_size (by repeat (first | (with_reducible first | exact HB.out | apply below_alloc | apply pw_below_drewN | apply below_drew1 | refine below_set ?_ GE238.out | refine below_set ?_ GE242.out) | exact HB.out))) : w.heap.size ≤ gb258))
                 have n9_ := Aside0.mk ((by rw [hg]; exact Nat.ne_of_lt (blk_lt (g := gb238) (o := .cells #[.int .i64 t235, .int .i64 t236] 26 (0, 0)) (by (with_reducible repeat (first | apply blk_drewN | apply blk_drew | apply blk_alloc)); exact BK238.out)) : gb238 ≠ gb258))
                 have n10_ := Aside0.mk ((by rw [hg]; exact Nat.ne_of_gt (blk_lt (g := gb238) (o := .cells #[.int .i64 t235, .int .i64 t236] 26 (0, 0)) (by (with_reducible repeat (first | apply blk_drewN | apply blk_drew | apply blk_alloc)); exact BK238.out)) : gb258 ≠ gb238))
                 have n11_ := Aside0.mk ((by rw [hg]; exact Nat.ne_of_lt (blk_lt (g := gb242) (o := .cells #[.int .i64 t239, .int .i64 t240] 26 (0, 0)) (by (with_reducible repeat (first | apply blk_drewN | apply blk_drew | apply blk_alloc)); exact BK242.out)) : gb242 ≠ gb258))
                 have n12_ := Aside0.mk ((by rw [hg]; exact Nat.ne_of_gt (blk_lt (g := gb242) (o := .cells #[.int .i64 t239, .int .i64 t240] 26 (0, 0)) (by (with_reducible repeat (first | apply blk_drewN | apply blk_drew | apply blk_alloc)); exact BK242.out)) : gb258 ≠ gb242))
                 clear HO_3
                 clear HO251
                 clear HO254
                 clear BK238
                 clear BK242
                 clear HB
                 have HO_3 := n0_
                 have HO251 := n1_
                 have HO254 := n2_
                 have BK238 := n3_
                 have BK242 := n4_
                 have HB := n5_
                 have BK258 := n6_
                 have GW258 := n7_
                 have GE258 := n8_
                 have NB238_258 := n9_
                 have NB258_238 := n10_
                 have NB242_258 := n11_
                 have NB258_242 := n12_
                 clear n0_ n1_ n2_ n3_ n4_ n5_ n6_ n7_ n8_ n9_ n10_ n11_ n12_
                 clear hb hbox hg
                 refine hK.out _ _ ⟨(blk_cell BK238.out 0).trans rfl, (blk_cell BK238.out 1).trans rfl⟩ (fun hHeld => ?_)
                 clear hK K
                 refine norm_ (a' := ?_) ?_ ?_
                 rotate_left
                 · show Act.put _ (some 8) _ = _
                   simp only [Act.put, List.setIfInBounds_toArray, List.set_cons_zero, List.set_cons_succ, i64_w, i32_w]
                   rfl
                 exact norm_ (by first | (simp only [putAll, Act.put, List.setIfInBounds_toArray, List.set_cons_zero, List.set_cons_succ]; done) | (simp only [putAll, Act.put, List.setIfInBounds_toArray, List.set_cons_zero, List.set_cons_succ]; rfl)) (hJ0_2_4_5_6_10 (v244, v247, v250, v253, gb258) _ ⟨hHeld, (by (with_reducible repeat (first | apply Kd.R_alloc | apply Kd.R_drewN | apply Kd.R_drew)); exact Kd.R_mono HO251.out (fun _ hk => ⟨hk.1.1, ⟨hk.1.2.1, ⟨hk.1.2.2.1, ⟨hk.1.2.2.2, hk.2⟩⟩⟩⟩)), (by (with_reducible repeat (first | apply Kd.R_alloc | apply Kd.R_drewN | apply Kd.R_drew)); exact Kd.R_mono HO254.out (fun _ hk => ⟨hk.1.1, ⟨hk.1.2.1, ⟨hk.1.2.2.1, ⟨hk.1.2.2.2, hk.2⟩⟩⟩⟩)), (by (with_reducible repeat (first | apply Kd.R_alloc | apply Kd.R_drewN | apply Kd.R_drew)); exact Kd.R_mono HO_3.out (fun _ hk => ⟨hk.1.1, ⟨hk.1.2.1, ⟨hk.1.2.2.1, ⟨hk.1.2.2.2, hk.2⟩⟩⟩⟩)), (by (with_reducible repeat (first | apply blk_drewN | apply blk_drew | apply blk_alloc)); exact BK238.out), (by (with_reducible repeat (first | apply blk_drewN | apply blk_drew | apply blk_alloc)); exact BK242.out), (by (with_reducible repeat (first | apply blk_drewN | apply blk_drew | apply blk_alloc)); exact BK258.out), GW258.out, GE258.out, NB238_258.out, NB258_238.out, NB242_258.out, NB258_242.out, (by repeat (first | (with_reducible first | exact HB.out | apply below_alloc | apply pw_below_drewN | apply below_drew1 | refine below_set ?_ GE238.out | refine below_set ?_ GE242.out | refine below_set ?_ GE258.out) | exact HB.out))⟩)
             rintro ⟨v244, v247, v250, v253, gb258⟩ w48 ⟨hS_, h0_, h1_, h2_, h3_, h4_, h5_, h6_, h7_, h8_, h9_, h10_, h11_, h12_⟩
             have n0_ : Aside0 (Kd.R k26 26 w48 w.heap.size (fun k_ => some k_ ≠ (v253 : Value).ownBlock ∧ some k_ ≠ (.slice Ao8 t232.length co8 : Value).ownBlock ∧ k_ ≠ gb238 ∧ k_ ≠ gb242 ∧ k_ ≠ gb258) v250 y249) := ⟨h0_⟩
             have n1_ : Aside0 (Kd.R k26 26 w48 w.heap.size (fun k_ => some k_ ≠ (v250 : Value).ownBlock ∧ some k_ ≠ (.slice Ao8 t232.length co8 : Value).ownBlock ∧ k_ ≠ gb238 ∧ k_ ≠ gb242 ∧ k_ ≠ gb258) v253 y252) := ⟨h1_⟩
             have n2_ : Aside0 (Kd.R k26 26 w48 w.heap.size (fun k_ => some k_ ≠ (v250 : Value).ownBlock ∧ some k_ ≠ (v253 : Value).ownBlock ∧ k_ ≠ gb238 ∧ k_ ≠ gb242 ∧ k_ ≠ gb258) (.slice Ao8 t232.length co8) t232) := ⟨h2_⟩
             have n3_ : Aside0 (w48.heap[gb238]? = some (.cells #[.int .i64 t235, .int .i64 t236] 26 (0, 0))) := ⟨h3_⟩
             have n4_ : Aside0 (w48.heap[gb242]? = some (.cells #[.int .i64 t239, .int .i64 t240] 26 (0, 0))) := ⟨h4_⟩
             have n5_ : Aside0 (w48.heap[gb258]? = some (.cells #[.int .i64 0, .int .i64 0] 26 (0, 0))) := ⟨h5_⟩
             have n6_ : Aside0 (w.heap.size ≤ gb258) := ⟨h6_⟩
             have n7_ : Aside0 (w.heap.size ≤ gb258) := ⟨h7_⟩
             have n8_ : Aside0 (gb238 ≠ gb258) := ⟨h8_⟩
             have n9_ : Aside0 (gb258 ≠ gb238) := ⟨h9_⟩
             have n10_ : Aside0 (gb242 ≠ gb258) := ⟨h10_⟩
             have n11_ : Aside0 (gb258 ≠ gb242) := ⟨h11_⟩
             have n12_ : Aside0 (Below w.heap.size w w48) := ⟨h12_⟩
             clear HO_3
             clear BK238
             clear BK242
             clear HB
             clear h0_ h1_ h2_ h3_ h4_ h5_ h6_ h7_ h8_ h9_ h10_ h11_ h12_
             have HO251 := n0_
             have HO254 := n1_
             have HO_3 := n2_
             have BK238 := n3_
             have BK242 := n4_
             have BK258 := n5_
             have GW258 := n6_
             have GE258 := n7_
             have NB238_258 := n8_
             have NB258_238 := n9_
             have NB242_258 := n10_
             have NB258_242 := n11_
             have HB := n12_
             clear n0_ n1_ n2_ n3_ n4_ n5_ n6_ n7_ n8_ n9_ n10_ n11_ n12_
             have hHeld : w48.cell? ⟨gb238, 0, none⟩ = some (.int .i64 t235) ∧ w48.cell? ⟨gb238, 1, none⟩ = some (.int .i64 t236) := hS_
             refine norm_ (a' := ?_) ?_ ?_
             rotate_left
             · simp only [putAll, Act.put, List.setIfInBounds_toArray, List.set_cons_zero, List.set_cons_succ]
               rfl
             refine one_ (i := 11) (N := none) #[true, true, true, true, true, true, true, true, true, true, true, true, false] rfl rfl (one_of HT_.out (by kernel_rfl)) (by decide) (fun K hK => ?_)
             have hs49 : w48.cell? ⟨gb258, 0, none⟩ = some (.int .i64 0) := (blk_cell BK258.out 0).trans rfl
             have hfs49 := blk_frozen BK258.out 0
             have hns49_0 := NB238_258.out
             have hns49_1 := NB242_258.out
             have hms49_0 := NB258_238.out
             have hms49_1 := NB258_242.out
             have hs50 : w48.cell? ⟨gb258, 1, none⟩ = some (.int .i64 0) := (blk_cell BK258.out 1).trans rfl
             have hfs50 := blk_frozen BK258.out 1
             have hns50_0 := NB238_258.out
             have hns50_1 := NB242_258.out
             have hms50_0 := NB258_238.out
             have hms50_1 := NB258_242.out
             refine skip_ (w1 := ?_) (by rfl) rfl ?_ ?_
             rotate_left
             · go_simp
               rfl
             refine hK.out _ _ ⟨((cell_far (p := ⟨gb258, _, none⟩) NB238_258.out _).trans (((cell_far (p := ⟨gb258, _, none⟩) NB238_258.out _).trans (hHeld.1)))), ((cell_far (p := ⟨gb258, _, none⟩) NB238_258.out _).trans (((cell_far (p := ⟨gb258, _, none⟩) NB238_258.out _).trans (hHeld.2))))⟩ (fun hHeld => ?_)
             clear hK K
             refine pure_ (i := 12) (N := some 9) (v := ?_) (a' := ?_) #[true, true, true, true, true, true, true, true, true, true, true, true, true] rfl rfl (any_of HT_.out (by kernel_rfl)) (fun _ _ _ h => h) (Or.inl ⟨by rfl, ?_⟩) ?_ ?_
             rotate_left
             · intro w'
               go_simp
               with_reducible rfl
             rotate_left
             · simp only [Act.put, List.setIfInBounds_toArray, List.set_cons_zero, List.set_cons_succ, i64_w, i32_w]
               rfl
             refine done_ (done_of HT_.out (by kernel_rfl)) ?_
             have hnb51 := NB258_238.out
             have hnc51 := NB238_258.out
             have hnb52 := NB258_242.out
             have hnc52 := NB242_258.out
             have hcz53_0 : w48.cell? ⟨gb258, 0, none⟩ = some (.int .i64 0) := (blk_cell BK258.out 0).trans rfl
             have hcz53_1 : w48.cell? ⟨gb258, 1, none⟩ = some (.int .i64 0) := (blk_cell BK258.out 1).trans rfl
             have hfz53_0 := blk_frozen BK258.out 0
             have hfz53_1 := blk_frozen BK258.out 1
             have hnb54 := NB238_242.out
             have hnc54 := NB242_238.out
             have hcz55_0 : w48.cell? ⟨gb238, 0, none⟩ = some (.int .i64 t235) := (blk_cell BK238.out 0).trans rfl
             have hcz55_1 : w48.cell? ⟨gb238, 1, none⟩ = some (.int .i64 t236) := (blk_cell BK238.out 1).trans rfl
             have hfz55_0 := blk_frozen BK238.out 0
             have hfz55_1 := blk_frozen BK238.out 1
             try go_wp2
             go_ret
             exact ⟨by first | rfl | (simp [errW_none, errW_some] <;> rfl) | (simp [*, errW_none, errW_some] <;> rfl), by repeat (first | (with_reducible first | exact HB.out | apply below_alloc | apply pw_below_drewN | apply below_drew1 | refine below_set ?_ GE238.out | refine below_set ?_ GE242.out | refine below_set ?_ GE258.out) | exact HB.out)⟩
           · replace c36 := Bool.eq_false_iff.mpr c36
             subst c36
             have H1 : (none) = some r := by rw [if_neg (show ¬ (false = true) by decide)] at H; exact H
             clear H
             have H := H1
             clear H1
             exact absurd H (by simp)
         · rw [if_neg c34] at H
           exact absurd H (by simp)
       · rw [if_neg c33] at H
         exact absurd H (by simp)

/-- THE ONE PURE STATEMENT of laws_FnAgreedSpanAdd: yours. -/
def laws_FnAgreedSpanAdd.Pure : Prop := ∀ (l0 : List Int), l0.length ≤ maxLen → l0.length * 1 ≤ 140737488351232 → (∀ x ∈ l0, (Lit.int .u8 x).wf = true) → ∃ k, laws_FnAgreedSpanAdd.f k l0 = some true
theorem laws_FnAgreedSpanAdd.walk (P : laws_FnAgreedSpanAdd.Pure) (a0 : Option Addr) (len0 cap0 : Nat) (z0 : List Int) (w : World) (w0 : (a0 = none ∧ len0 = 0 ∧ cap0 = 0 ∧ z0 = []) ∨ ∃ x, a0 = some x ∧ len0 ≤ cap0 ∧ cap0 ≤ maxLen ∧ z0.length = cap0 ∧ (∀ i, i < z0.length → w.cell? (x.add i) = some (.int .u8 (z0.getD i 0))) ∧ ∀ n ∈ z0, (Lit.int .u8 n).wf = true) (y0 : len0 * 1 ≤ 140737488351232) :
 Calls Try.prog 3 #[.slice a0 len0 cap0] w fun e w' => e = .returned (.bool true) ∧ Below w.heap.size w w' := by
 obtain ⟨l0, rfl, hr0, hm0, hw0, hc0⟩ := ReadsInt.ofRowC w0
 obtain ⟨k, h⟩ := P l0 hm0 y0 hw0
 refine (laws_FnAgreedSpanAdd.calls k _ _ l0 true w (Kd.C_of_reads (d := (0 : Int)) (h1 := fun _ => rfl) hr0) hc0 h).mono ?_
 rintro e w' ⟨rfl, hd⟩
 exact ⟨rfl, hd⟩

end Go.Proofs.Ytlgphpjialbaoaa.PAll
