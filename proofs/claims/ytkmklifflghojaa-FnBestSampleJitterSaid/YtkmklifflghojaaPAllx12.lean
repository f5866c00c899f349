/- Contracts of the Go functions that this seat's laws reach: each call returns what the plain function beside it tells, and leaves what was there; no condition but that result. Written by a program of this session (pmore.py, over the kit's print). -/
import Derived.Test.YtkmklifflghojaaPAllx0
import Derived.Test.YtkmklifflghojaaPAllx1
import Derived.Test.YtkmklifflghojaaPAllx9
import Derived.Test.YtkmklifflghojaaPAllx10
import Derived.Test.YtkmklifflghojaaPAllx11
namespace Go.Proofs.Ytkmklifflghojaa.PAll
open Go.RowKit Go.Proofs.YtkmklifflghojaaW.PrintWords Go.Proofs.YtkmklifflghojaaW.PrintLast Go.Proofs.YtkmklifflghojaaW.PrintMore
attribute [local go_sem] max2_int min2_int max_two min_two max_three min_three max_four min_four   -- for this text's walks alone
set_option linter.unusedVariables false
set_option linter.unusedSimpArgs false

attribute [local go_sem high] eqA32
/-! ### laws_FnBestSampleJitter: function 10 -/
mutual
def laws_FnBestSampleJitter.j0 : Nat → List (S32) → Bool → Bool → Bool → Int → Int → Int → Int → Int → Int → Option (Bool)
 | 0, _, _, _, _, _, _, _, _, _, _ => none
 | k + 1, x3, x5, x7, x36, x335000, x335001, x335002, x340000, x340001, x340002 => if x36 = true then (if (x335000 == x340000 && (x335001 == x340001 && (x335002 == x340002))) = true then (some (x5 == x7)) else (some false)) else ((some (([] : List (S32)) : List (S32))).bind fun y340 => (if y340.length + x3.length < 5864062014805 then (laws_FnBestSampleJitter.l0 k x3 (y340 ++ x3) 0) else (none)))
def laws_FnBestSampleJitter.l0 : Nat → List (S32) → List (S32) → Int → Option (Bool)
 | 0, _, _, _ => none
 | k + 1, x3, x8, x9 => if x9 < (x8.length : Int) then (if 0 ≤ x9 then (laws_FnBestSampleJitter.l0 k x3 (x8.set (x9 : Int).toNat (⟨12, (rd_T32 x8 x9).f1, (rd_T32 x8 x9).f2⟩ : S32)) (wrap64 (x9 + 1))) else (none)) else ((impl_JitterOf.f k x8).bind fun t347 => (if t347 = 0 then ((impl_MedianOffset.f k x8).bind fun t348 => (if t348 = 12 then ((impl_WithoutSpikes.f k x8 0).bind fun t349 => (some ((t349.length : Int) == (x3.length : Int)))) else (some false))) else (some false)))
end
def laws_FnBestSampleJitter.f (k : Nat) (l0 : List Int) : Option (Bool) := if (l0.length : Int) > 1048576 then (some true) else ((spec_DrawBestSample.f k l0).bind fun t327 => ((impl_BestSample.f k t327).bind fun bt330 => ((spec_BestSample.f k t327).bind fun bt335 => (if (!(bt330.1 == bt335.1) || (!(bt330.2.1 == bt335.2.1) || (!(bt330.2.2.1 == bt335.2.2.1)))) = true then (laws_FnBestSampleJitter.j0 k t327 bt330.2.2.2 bt335.2.2.2 true bt330.1 bt330.2.1 bt330.2.2.1 bt335.1 bt335.2.1 bt335.2.2.1) else (if (bt330.2.2.2 != bt335.2.2.2) = true then (laws_FnBestSampleJitter.j0 k t327 bt330.2.2.2 bt335.2.2.2 true bt330.1 bt330.2.1 bt330.2.2.1 bt335.1 bt335.2.1 bt335.2.2.1) else (laws_FnBestSampleJitter.j0 k t327 bt330.2.2.2 bt335.2.2.2 (!bt330.2.2.2) bt330.1 bt330.2.1 bt330.2.2.1 bt335.1 bt335.2.1 bt335.2.2.1))))))
theorem laws_FnBestSampleJitter.mono_l : ∀ k, (∀ y0 y1 y2 y3 y4 y5 y6 y7 y8 y9, LeO (laws_FnBestSampleJitter.j0 k y0 y1 y2 y3 y4 y5 y6 y7 y8 y9) (laws_FnBestSampleJitter.j0 (k + 1) y0 y1 y2 y3 y4 y5 y6 y7 y8 y9)) ∧ (∀ y0 y1 y2, LeO (laws_FnBestSampleJitter.l0 k y0 y1 y2) (laws_FnBestSampleJitter.l0 (k + 1) y0 y1 y2))
 | 0 => ⟨fun _ _ _ _ _ _ _ _ _ _ r h => by simp [laws_FnBestSampleJitter.j0] at h, fun _ _ _ r h => by simp [laws_FnBestSampleJitter.l0] at h⟩
 | k + 1 => by
  obtain ⟨ih0, ih1⟩ := laws_FnBestSampleJitter.mono_l k
  refine ⟨?_, ?_⟩
  · intro y0 y1 y2 y3 y4 y5 y6 y7 y8 y9
    unfold laws_FnBestSampleJitter.j0
    repeat' first
    | (with_reducible exact ih0 _ _ _ _ _ _ _ _ _ _)
    | (with_reducible exact ih1 _ _ _)
    | (with_reducible exact impl_BestSample.mono _ _)
    | (with_reducible exact impl_JitterOf.mono _ _)
    | (with_reducible exact impl_MedianOffset.mono _ _)
    | (with_reducible exact impl_WithoutSpikes.mono _ _ _)
    | (with_reducible exact spec_BestSample.mono _ _)
    | (with_reducible exact spec_DrawBestSample.mono _ _)
    | (with_reducible exact LeO.refl _)
    | (with_reducible exact LeO.none _)
    | (with_reducible refine LeO.ite ?_ ?_)
    | (with_reducible refine LeO.bind ?_ (fun _ => ?_))
    | exact ih0 _ _ _ _ _ _ _ _ _ _
    | exact ih1 _ _ _
    | exact impl_BestSample.mono _ _
    | exact impl_JitterOf.mono _ _
    | exact impl_MedianOffset.mono _ _
    | exact impl_WithoutSpikes.mono _ _ _
    | exact spec_BestSample.mono _ _
    | exact spec_DrawBestSample.mono _ _
    | exact LeO.none _
    | refine LeO.ite ?_ ?_
    | refine LeO.bind ?_ (fun _ => ?_)
  · intro y0 y1 y2
    unfold laws_FnBestSampleJitter.l0
    repeat' first
    | (with_reducible exact ih0 _ _ _ _ _ _ _ _ _ _)
    | (with_reducible exact ih1 _ _ _)
    | (with_reducible exact impl_BestSample.mono _ _)
    | (with_reducible exact impl_JitterOf.mono _ _)
    | (with_reducible exact impl_MedianOffset.mono _ _)
    | (with_reducible exact impl_WithoutSpikes.mono _ _ _)
    | (with_reducible exact spec_BestSample.mono _ _)
    | (with_reducible exact spec_DrawBestSample.mono _ _)
    | (with_reducible exact LeO.refl _)
    | (with_reducible exact LeO.none _)
    | (with_reducible refine LeO.ite ?_ ?_)
    | (with_reducible refine LeO.bind ?_ (fun _ => ?_))
    | exact ih0 _ _ _ _ _ _ _ _ _ _
    | exact ih1 _ _ _
    | exact impl_BestSample.mono _ _
    | exact impl_JitterOf.mono _ _
    | exact impl_MedianOffset.mono _ _
    | exact impl_WithoutSpikes.mono _ _ _
    | exact spec_BestSample.mono _ _
    | exact spec_DrawBestSample.mono _ _
    | exact LeO.none _
    | refine LeO.ite ?_ ?_
    | refine LeO.bind ?_ (fun _ => ?_)
theorem laws_FnBestSampleJitter.mono : ∀ a0 k, LeO (laws_FnBestSampleJitter.f k a0) (laws_FnBestSampleJitter.f (k + 1) a0) := by
 intro a0 k
 obtain ⟨ih0, ih1⟩ := laws_FnBestSampleJitter.mono_l k
 unfold laws_FnBestSampleJitter.f
 repeat' first
  | (with_reducible exact ih0 _ _ _ _ _ _ _ _ _ _)
  | (with_reducible exact ih1 _ _ _)
  | (with_reducible exact impl_BestSample.mono _ _)
  | (with_reducible exact impl_JitterOf.mono _ _)
  | (with_reducible exact impl_MedianOffset.mono _ _)
  | (with_reducible exact impl_WithoutSpikes.mono _ _ _)
  | (with_reducible exact spec_BestSample.mono _ _)
  | (with_reducible exact spec_DrawBestSample.mono _ _)
  | (with_reducible exact LeO.refl _)
  | (with_reducible exact LeO.none _)
  | (with_reducible refine LeO.ite ?_ ?_)
  | (with_reducible refine LeO.bind ?_ (fun _ => ?_))
  | exact ih0 _ _ _ _ _ _ _ _ _ _
  | exact ih1 _ _ _
  | exact impl_BestSample.mono _ _
  | exact impl_JitterOf.mono _ _
  | exact impl_MedianOffset.mono _ _
  | exact impl_WithoutSpikes.mono _ _ _
  | exact spec_BestSample.mono _ _
  | exact spec_DrawBestSample.mono _ _
  | exact LeO.none _
  | refine LeO.ite ?_ ?_
  | refine LeO.bind ?_ (fun _ => ?_)
set_option maxHeartbeats 8000000 in
set_option maxRecDepth 100000 in
theorem laws_FnBestSampleJitter.calls (k : Nat) (A0 : Option Addr) (c0 : Nat) (l0 : List Int) (r : Bool) (w : World) (hr0 : Kd.C (Kd.int .u8) w A0 l0.length l0) (hc0 : l0.length ≤ c0) (h : laws_FnBestSampleJitter.f k l0 = some r) :
 Calls Try.prog 10 #[.slice A0 l0.length c0] w fun e w' => e = .returned (.bool r) ∧ Below w.heap.size w w' := by
 have hu32 := Try.underlying32
 have HR0 := Aside0.mk hr0
 have HC0 := Aside0.mk hc0
 clear hr0 hc0
 have HB := Aside0.mk (Below.refl w.heap.size w)
 have H : (if (l0.length : Int) > 1048576 then (some true) else ((spec_DrawBestSample.f k l0).bind fun t327 => ((impl_BestSample.f k t327).bind fun bt330 => ((spec_BestSample.f k t327).bind fun bt335 => (if (!(bt330.1 == bt335.1) || (!(bt330.2.1 == bt335.2.1) || (!(bt330.2.2.1 == bt335.2.2.1)))) = true then (laws_FnBestSampleJitter.j0 k t327 bt330.2.2.2 bt335.2.2.2 true bt330.1 bt330.2.1 bt330.2.2.1 bt335.1 bt335.2.1 bt335.2.2.1) else (if (bt330.2.2.2 != bt335.2.2.2) = true then (laws_FnBestSampleJitter.j0 k t327 bt330.2.2.2 bt335.2.2.2 true bt330.1 bt330.2.1 bt330.2.2.1 bt335.1 bt335.2.1 bt335.2.2.1) else (laws_FnBestSampleJitter.j0 k t327 bt330.2.2.2 bt335.2.2.2 (!bt330.2.2.2) bt330.1 bt330.2.1 bt330.2.2.1 bt335.1 bt335.2.1 bt335.2.2.1))))))) = some r := h
 clear h
 by_cases c2 : (l0.length : Int) > 1048576
 · rw [if_pos c2] at H
   have c2b0 : decide (1048576 < (l0.length : Int)) = true := decide_eq_true c2
   have c2b1 : decide (1048576 < l0.length) = true := decide_eq_true (by omega)
   clear c2
   obtain rfl := Option.some.inj H
   go_enter Try.func10, Try.ntmps10
   go_wp2
   go_ret
   exact ⟨by first | rfl | (simp [errW_none, errW_some] <;> rfl) | (simp [*, errW_none, errW_some] <;> rfl), by repeat (first | (with_reducible first | exact HB.out | apply below_alloc | apply pw_below_drewN | apply below_drew1) | exact HB.out)⟩
 · rw [if_neg c2] at H
   have c2b0 : decide (1048576 < (l0.length : Int)) = false := decide_eq_false c2
   have c2b1 : decide (1048576 < l0.length) = false := decide_eq_false (by omega)
   clear c2
   replace H := Option.bind_eq_some_iff.mp H
   obtain ⟨t327, A30, H⟩ := H
   replace H : ((impl_BestSample.f k t327).bind fun bt330 => ((spec_BestSample.f k t327).bind fun bt335 => (if (!(bt330.1 == bt335.1) || (!(bt330.2.1 == bt335.2.1) || (!(bt330.2.2.1 == bt335.2.2.1)))) = true then (laws_FnBestSampleJitter.j0 k t327 bt330.2.2.2 bt335.2.2.2 true bt330.1 bt330.2.1 bt330.2.2.1 bt335.1 bt335.2.1 bt335.2.2.1) else (if (bt330.2.2.2 != bt335.2.2.2) = true then (laws_FnBestSampleJitter.j0 k t327 bt330.2.2.2 bt335.2.2.2 true bt330.1 bt330.2.1 bt330.2.2.1 bt335.1 bt335.2.1 bt335.2.2.1) else (laws_FnBestSampleJitter.j0 k t327 bt330.2.2.2 bt335.2.2.2 (!bt330.2.2.2) bt330.1 bt330.2.1 bt330.2.2.1 bt335.1 bt335.2.1 bt335.2.2.1))))) = some r := H
   have A3 := Aside0.mk A30
   clear A30
   replace H := Option.bind_eq_some_iff.mp H
   obtain ⟨⟨t330, t331, t332, t333⟩, A40, H⟩ := H
   replace H : ((spec_BestSample.f k t327).bind fun bt335 => (if (!(t330 == bt335.1) || (!(t331 == bt335.2.1) || (!(t332 == bt335.2.2.1)))) = true then (laws_FnBestSampleJitter.j0 k t327 t333 bt335.2.2.2 true t330 t331 t332 bt335.1 bt335.2.1 bt335.2.2.1) else (if (t333 != bt335.2.2.2) = true then (laws_FnBestSampleJitter.j0 k t327 t333 bt335.2.2.2 true t330 t331 t332 bt335.1 bt335.2.1 bt335.2.2.1) else (laws_FnBestSampleJitter.j0 k t327 t333 bt335.2.2.2 (!t333) t330 t331 t332 bt335.1 bt335.2.1 bt335.2.2.1)))) = some r := H
   have A4 := Aside0.mk A40
   clear A40
   replace H := Option.bind_eq_some_iff.mp H
   obtain ⟨⟨t335, t336, t337, t338⟩, A50, H⟩ := H
   replace H : (if (!(t330 == t335) || (!(t331 == t336) || (!(t332 == t337)))) = true then (laws_FnBestSampleJitter.j0 k t327 t333 t338 true t330 t331 t332 t335 t336 t337) else (if (t333 != t338) = true then (laws_FnBestSampleJitter.j0 k t327 t333 t338 true t330 t331 t332 t335 t336 t337) else (laws_FnBestSampleJitter.j0 k t327 t333 t338 (!t333) t330 t331 t332 t335 t336 t337))) = some r := H
   have A5 := Aside0.mk A50
   clear A50
   have HC6 := Aside0.mk H
   clear H
   go_enter Try.func10, Try.ntmps10
   go_upto_region 6 with (first | ((with_reducible refine gate_callee (f := 28) rfl ?_); refine goesL_ (some 14) rfl rfl Try.func28 (by kernel_rfl) rfl #[.slice A0 l0.length c0] rfl (by (try simp only [List.map_toArray, List.map_cons, List.map_nil]); first | done | rfl | (simp only [List.length_drop, List.length_take]; rfl)) ?_; (with_reducible refine (spec_DrawBestSample.calls k _ _ l0 t327 _ ?side1 ?side2 A3.out).mono ?_); (case side1 => repeat (first | exact HR0.out | (with_reducible refine Kd.C_alloc ?_ _) | (with_reducible refine Kd.C_drewN ?_ _) | (with_reducible refine Kd.C_drew ?_))); (case side2 => exact HC0.out); rintro e w7 ⟨v328, rfl, ho0, hb⟩; refine ⟨_, rfl, ?_⟩; have n0_ := Aside0.mk (Kd.R_lower ho0 (below_size (by repeat (first | (with_reducible first | exact HB.out | apply below_alloc | apply pw_below_drewN | apply below_drew1) | exact HB.out)))); have n1_ := Aside0.mk (below_step (by repeat (first | (with_reducible first | exact HB.out | apply below_alloc | apply pw_below_drewN | apply below_drew1) | exact HB.out)) hb); clear HB; have HO329 := n0_; have HB := n1_; clear n0_ n1_; (try clear hb); (try clear hb2); (try clear hk); (try clear hi); (try clear ho0); obtain ⟨Ao8, co8, eo8⟩ := Kd.R_slice HO329.out; subst eo8) | ((with_reducible refine gate_callee (f := 29) rfl ?_); refine goesL_ (some 17) rfl rfl Try.func29 (by kernel_rfl) rfl #[.slice Ao8 t327.length co8] rfl (by (try simp only [List.map_toArray, List.map_cons, List.map_nil]); first | done | rfl | (simp only [List.length_drop, List.length_take]; rfl)) ?_; (with_reducible refine (impl_BestSample.calls k _ _ t327 t330 t331 t332 t333 _ ?side1 ?side2 A4.out).mono ?_); (case side1 => repeat (first | exact (Kd.R_reads' HO329.out).2.2 | (with_reducible refine Kd.C_alloc ?_ _) | (with_reducible refine Kd.C_drewN ?_ _) | (with_reducible refine Kd.C_drew ?_))); (case side2 => exact (Kd.R_reads' HO329.out).2.1); rintro e w9 ⟨rfl, hb⟩; refine ⟨_, rfl, ?_⟩; have n0_ := Aside0.mk (Kd.R_below (by (with_reducible repeat (first | apply Kd.R_alloc | apply Kd.R_drewN | apply Kd.R_drew)); exact HO329.out) hb); have n1_ := Aside0.mk (below_step (by repeat (first | (with_reducible first | exact HB.out | apply below_alloc | apply pw_below_drewN | apply below_drew1) | exact HB.out)) hb); clear HO329; clear HB; have HO329 := n0_; have HB := n1_; clear n0_ n1_; (try clear hb); (try clear hb2); (try clear hk); (try clear hi)) | ((with_reducible refine gate_dst (N := 4) rfl ?_); (try (refine gate_guard (by rfl) ?_; dsimp only)); refine box_event ?hg (N := 4) ?hd (cs := #[.int .i64 0, .int .i64 0, .int .i64 0]) (t := 32) ?hr ?_; (case hd => rfl); (case hg => rfl); (case hr => first | (go_simp; done) | (go_simp; rfl)); intro gb334 hg w10 hbox hb; have n0_ := Aside0.mk (Kd.R_below (Kd.R_elderB (by (with_reducible repeat (first | apply Kd.R_alloc | apply Kd.R_drewN | apply Kd.R_drew)); exact HO329.out) gb334 (Nat.le_of_eq hg.symm)) hb); have n1_ := Aside0.mk (below_step (by repeat (first | (with_reducible first | exact HB.out | apply below_alloc | apply pw_below_drewN | apply below_drew1) | exact HB.out)) hb); have n2_ := Aside0.mk (hbox); have n3_ := Aside0.mk ((by rw [hg]; exact (below_size (by repeat (first | (with_reducible first | exact HB.out | apply below_alloc | apply pw_below_drewN | apply below_drew1) | exact HB.out))) : w.heap.size ≤ gb334)); have n4_ := Aside0.mk ((by rw [hg]; exact (below_size (by repeat (first | (with_reducible first | exact HB.out | apply below_alloc | apply pw_below_drewN | apply below_drew1) | exact HB.out))) : w.heap.size ≤ gb334)); clear HO329; clear HB; have HO329 := n0_; have HB := n1_; have BK334 := n2_; have GW334 := n3_; have GE334 := n4_; clear n0_ n1_ n2_ n3_ n4_; clear hb hbox hg; have hcz11_0 : w10.cell? ⟨gb334, 0, none⟩ = some (.int .i64 0) := (blk_cell BK334.out 0).trans rfl; have hcz11_1 : w10.cell? ⟨gb334, 1, none⟩ = some (.int .i64 0) := (blk_cell BK334.out 1).trans rfl; have hcz11_2 : w10.cell? ⟨gb334, 2, none⟩ = some (.int .i64 0) := (blk_cell BK334.out 2).trans rfl; have hfz11_0 := blk_frozen BK334.out 0; have hfz11_1 := blk_frozen BK334.out 1; have hfz11_2 := blk_frozen BK334.out 2) | ((with_reducible refine gate_callee (f := 30) rfl ?_); refine goesL_ (some 22) rfl rfl Try.func30 (by kernel_rfl) rfl #[.slice Ao8 t327.length co8] rfl (by (try simp only [List.map_toArray, List.map_cons, List.map_nil]); first | done | rfl | (simp only [List.length_drop, List.length_take]; rfl)) ?_; (with_reducible refine (spec_BestSample.calls k _ _ t327 t335 t336 t337 t338 _ ?side1 ?side2 A5.out).mono ?_); (case side1 => refine (Kd.R_reads' (e := 32) (base := w.heap.size) (ok := fun k_ => (True ∧ k_ ≠ gb334)) (n := t327.length) (c := co8) ?_).2.2; exact (by (with_reducible repeat (first | apply Kd.R_alloc | apply Kd.R_drewN | apply Kd.R_drew)); exact (Kd.R_mono (Kd.R_far (p := ⟨gb334, 2, none⟩) (Kd.R_far (p := ⟨gb334, 1, none⟩) (Kd.R_far (p := ⟨gb334, 0, none⟩) (Kd.R_mono HO329.out (fun k_ hk => (⟨hk, hk.2⟩ : _ ∧ k_ ≠ gb334))) (fun _ hk => hk.2) (.int .i64 t330)) (fun _ hk => hk.2) (.int .i64 t331)) (fun _ hk => hk.2) (.int .i64 t332)) (fun _ h_ => h_.1)))); (case side2 => exact (Kd.R_reads' HO329.out).2.1); rintro e w12 ⟨rfl, hb⟩; refine ⟨_, rfl, ?_⟩; have n0_ := Aside0.mk (Kd.R_below (by (with_reducible repeat (first | apply Kd.R_alloc | apply Kd.R_drewN | apply Kd.R_drew)); exact (Kd.R_mono (Kd.R_far (p := ⟨gb334, 2, none⟩) (Kd.R_far (p := ⟨gb334, 1, none⟩) (Kd.R_far (p := ⟨gb334, 0, none⟩) (Kd.R_mono HO329.out (fun k_ hk => (⟨hk, hk.2⟩ : _ ∧ k_ ≠ gb334))) (fun _ hk => hk.2) (.int .i64 t330)) (fun _ hk => hk.2) (.int .i64 t331)) (fun _ hk => hk.2) (.int .i64 t332)) (fun _ h_ => h_.1))) hb); have n1_ := Aside0.mk (blk_below (g := gb334) (o := .cells #[.int .i64 t330, .int .i64 t331, .int .i64 t332] 32 (0, 0)) (by (with_reducible repeat (first | apply blk_drewN | apply blk_drew | apply blk_alloc)); refine blk_put (cs := #[.int .i64 t330, .int .i64 t331, .int .i64 0]) ?_ 2 _ rfl; (with_reducible repeat (first | apply blk_drewN | apply blk_drew | apply blk_alloc)); refine blk_put (cs := #[.int .i64 t330, .int .i64 0, .int .i64 0]) ?_ 1 _ rfl; (with_reducible repeat (first | apply blk_drewN | apply blk_drew | apply blk_alloc)); refine blk_put (cs := #[.int .i64 0, .int .i64 0, .int .i64 0]) ?_ 0 _ rfl; (with_reducible repeat (first | apply blk_drewN | apply blk_drew | apply blk_alloc)); exact BK334.out) hb); have n2_ := Aside0.mk (below_step (by repeat (first | (with_reducible first | exact HB.out | apply below_alloc | apply pw_below_drewN | apply below_drew1 | refine below_set ?_ GE334.out) | exact HB.out)) hb); clear HO329; clear BK334; clear HB; have HO329 := n0_; have BK334 := n1_; have HB := n2_; clear n0_ n1_ n2_; (try clear hb); (try clear hb2); (try clear hk); (try clear hi)) | ((with_reducible refine gate_dst (N := 6) rfl ?_); (try (refine gate_guard (by rfl) ?_; dsimp only)); refine box_event ?hg (N := 6) ?hd (cs := #[.int .i64 0, .int .i64 0, .int .i64 0]) (t := 32) ?hr ?_; (case hd => rfl); (case hg => rfl); (case hr => first | (go_simp; done) | (go_simp; rfl)); intro gb339 hg w13 hbox hb; have n0_ := Aside0.mk (Kd.R_below (Kd.R_elderB (by (with_reducible repeat (first | apply Kd.R_alloc | apply Kd.R_drewN | apply Kd.R_drew)); exact HO329.out) gb339 (Nat.le_of_eq hg.symm)) hb); have n1_ := Aside0.mk (blk_below (g := gb334) (o := .cells #[.int .i64 t330, .int .i64 t331, .int .i64 t332] 32 (0, 0)) (by (with_reducible repeat (first | apply blk_drewN | apply blk_drew | apply blk_alloc)); exact BK334.out) hb); have n2_ := Aside0.mk (below_step (by repeat (first | (with_reducible first | exact HB.out | apply below_alloc | apply pw_below_drewN | apply below_drew1 | refine below_set ?_ GE334.out) | exact HB.out)) hb); have n3_ := Aside0.mk (hbox); have n4_ := Aside0.mk ((by rw [hg]; exact (below_size (by repeat (first | (with_reducible first | exact HB.out | apply below_alloc | apply pw_below_drewN | apply below_drew1 | refine below_set ?_ GE334.out) | exact HB.out))) : w.heap.size ≤ gb339)); have n5_ := Aside0.mk ((by rw [hg]; exact (below_size (by repeat (first | (with_reducible first | exact HB.out | apply below_alloc | apply pw_below_drewN | apply below_drew1 | refine below_set ?_ GE334.out) | exact HB.out))) : w.heap.size ≤ gb339)); have n6_ := Aside0.mk ((by rw [hg]; exact Nat.ne_of_lt (blk_lt (g := gb334) (o := .cells #[.int .i64 t330, .int .i64 t331, .int .i64 t332] 32 (0, 0)) (by (with_reducible repeat (first | apply blk_drewN | apply blk_drew | apply blk_alloc)); exact BK334.out)) : gb334 ≠ gb339)); have n7_ := Aside0.mk ((by rw [hg]; exact Nat.ne_of_gt (blk_lt (g := gb334) (o := .cells #[.int .i64 t330, .int .i64 t331, .int .i64 t332] 32 (0, 0)) (by (with_reducible repeat (first | apply blk_drewN | apply blk_drew | apply blk_alloc)); exact BK334.out)) : gb339 ≠ gb334)); clear HO329; clear BK334; clear HB; have HO329 := n0_; have BK334 := n1_; have HB := n2_; have BK339 := n3_; have GW339 := n4_; have GE339 := n5_; have NB334_339 := n6_; have NB339_334 := n7_; clear n0_ n1_ n2_ n3_ n4_ n5_ n6_ n7_; clear hb hbox hg; have hnb14 := NB339_334.out; have hnc14 := NB334_339.out; have hcz15_0 : w13.cell? ⟨gb339, 0, none⟩ = some (.int .i64 0) := (blk_cell BK339.out 0).trans rfl; have hcz15_1 : w13.cell? ⟨gb339, 1, none⟩ = some (.int .i64 0) := (blk_cell BK339.out 1).trans rfl; have hcz15_2 : w13.cell? ⟨gb339, 2, none⟩ = some (.int .i64 0) := (blk_cell BK339.out 2).trans rfl; have hfz15_0 := blk_frozen BK339.out 0; have hfz15_1 := blk_frozen BK339.out 1; have hfz15_2 := blk_frozen BK339.out 2))
   (try simp only [Act.put, List.setIfInBounds_toArray, List.set_cons_zero, List.set_cons_succ])
   go_cut [36] (fun v36 wc => ∃ (kq : Nat) (x36_5 : Bool), v36 = .bool x36_5 ∧ Aside0 (laws_FnBestSampleJitter.j0 kq t327 t333 t338 x36_5 t330 t331 t332 t335 t336 t337 = some r) ∧ Aside0 (kq ≤ k) ∧ Aside0 (Kd.R k32 32 wc w.heap.size (fun k_ => k_ ≠ gb334 ∧ k_ ≠ gb339) (.slice Ao8 t327.length co8) t327) ∧ Aside0 (wc.heap[gb334]? = some (.cells #[.int .i64 t330, .int .i64 t331, .int .i64 t332] 32 (0, 0))) ∧ Aside0 (wc.heap[gb339]? = some (.cells #[.int .i64 t335, .int .i64 t336, .int .i64 t337] 32 (0, 0))) ∧ Aside0 (Below w.heap.size w wc))
   case first =>
    have H := HC6.out
    clear HC6
    by_cases c16 : (!(t330 == t335) || (!(t331 == t336) || (!(t332 == t337)))) = true
    · rw [if_pos c16] at H
      have c16b0 : (!(t330 == t335) || (!(t331 == t336) || (!(t332 == t337)))) = true := c16
      clear c16
      (first | rw [c16b0] | (simp only [i64_w, i32_w]; rw [c16b0]) | skip)
      have H' := Aside0.mk H
      clear H
      have hnb17 := NB334_339.out
      have hnc17 := NB339_334.out
      have hcz18_0 : w13.cell? ⟨gb334, 0, none⟩ = some (.int .i64 t330) := (blk_cell BK334.out 0).trans rfl
      have hcz18_1 : w13.cell? ⟨gb334, 1, none⟩ = some (.int .i64 t331) := (blk_cell BK334.out 1).trans rfl
      have hcz18_2 : w13.cell? ⟨gb334, 2, none⟩ = some (.int .i64 t332) := (blk_cell BK334.out 2).trans rfl
      have hfz18_0 := blk_frozen BK334.out 0
      have hfz18_1 := blk_frozen BK334.out 1
      have hfz18_2 := blk_frozen BK334.out 2
      have hcz19_0 : w13.cell? ⟨gb339, 0, none⟩ = some (.int .i64 0) := (blk_cell BK339.out 0).trans rfl
      have hcz19_1 : w13.cell? ⟨gb339, 1, none⟩ = some (.int .i64 0) := (blk_cell BK339.out 1).trans rfl
      have hcz19_2 : w13.cell? ⟨gb339, 2, none⟩ = some (.int .i64 0) := (blk_cell BK339.out 2).trans rfl
      have hfz19_0 := blk_frozen BK339.out 0
      have hfz19_1 := blk_frozen BK339.out 1
      have hfz19_2 := blk_frozen BK339.out 2
      go_wp2
      go_meet
      case rel => exact ⟨_, (true), (by first | rfl | (simp; done) | (simp [*]; done)), H', ⟨by first | omega | exact Nat.le_refl _⟩, ⟨by (with_reducible repeat (first | apply Kd.R_alloc | apply Kd.R_drewN | apply Kd.R_drew)); exact Kd.R_mono (Kd.R_far (p := ⟨gb339, 2, none⟩) (Kd.R_far (p := ⟨gb339, 1, none⟩) (Kd.R_far (p := ⟨gb339, 0, none⟩) (Kd.R_mono HO329.out (fun k_ hk => (⟨hk, hk.2⟩ : _ ∧ k_ ≠ gb339))) (fun _ hk => hk.2) (.int .i64 t335)) (fun _ hk => hk.2) (.int .i64 t336)) (fun _ hk => hk.2) (.int .i64 t337)) (fun _ hk => ⟨hk.1.1.2, hk.1.2⟩)⟩, ⟨by (with_reducible repeat (first | apply blk_drewN | apply blk_drew | apply blk_alloc)); refine blk_far ?_ NB334_339.out _; (with_reducible repeat (first | apply blk_drewN | apply blk_drew | apply blk_alloc)); refine blk_far ?_ NB334_339.out _; (with_reducible repeat (first | apply blk_drewN | apply blk_drew | apply blk_alloc)); refine blk_far ?_ NB334_339.out _; (with_reducible repeat (first | apply blk_drewN | apply blk_drew | apply blk_alloc)); exact BK334.out⟩, ⟨by (with_reducible repeat (first | apply blk_drewN | apply blk_drew | apply blk_alloc)); refine blk_put (cs := #[.int .i64 t335, .int .i64 t336, .int .i64 0]) ?_ 2 _ rfl; (with_reducible repeat (first | apply blk_drewN | apply blk_drew | apply blk_alloc)); refine blk_put (cs := #[.int .i64 t335, .int .i64 0, .int .i64 0]) ?_ 1 _ rfl; (with_reducible repeat (first | apply blk_drewN | apply blk_drew | apply blk_alloc)); refine blk_put (cs := #[.int .i64 0, .int .i64 0, .int .i64 0]) ?_ 0 _ rfl; (with_reducible repeat (first | apply blk_drewN | apply blk_drew | apply blk_alloc)); exact BK339.out⟩, ⟨by repeat (first | (with_reducible first | exact HB.out | apply below_alloc | apply pw_below_drewN | apply below_drew1 | refine below_set ?_ GE334.out | refine below_set ?_ GE339.out) | exact HB.out)⟩⟩
    · rw [if_neg c16] at H
      have c16b0 : (!(t330 == t335) || (!(t331 == t336) || (!(t332 == t337)))) = false := by simpa using c16
      clear c16
      (first | rw [c16b0] | (simp only [i64_w, i32_w]; rw [c16b0]) | skip)
      by_cases c20 : (t333 != t338) = true
      · rw [if_pos c20] at H
        have c20b0 : (t333 != t338) = true := c20
        (try (have c20b1 : decide (t333 = t338) = false := by simpa using c20))
        (try (have c20b2 : (t333 == t338) = false := by simpa using c20))
        (try (have c20b3 : ¬ (t333 = t338) := by simpa using c20))
        clear c20
        have H' := Aside0.mk H
        clear H
        have hnb21 := NB334_339.out
        have hnc21 := NB339_334.out
        have hcz22_0 : w13.cell? ⟨gb334, 0, none⟩ = some (.int .i64 t330) := (blk_cell BK334.out 0).trans rfl
        have hcz22_1 : w13.cell? ⟨gb334, 1, none⟩ = some (.int .i64 t331) := (blk_cell BK334.out 1).trans rfl
        have hcz22_2 : w13.cell? ⟨gb334, 2, none⟩ = some (.int .i64 t332) := (blk_cell BK334.out 2).trans rfl
        have hfz22_0 := blk_frozen BK334.out 0
        have hfz22_1 := blk_frozen BK334.out 1
        have hfz22_2 := blk_frozen BK334.out 2
        have hcz23_0 : w13.cell? ⟨gb339, 0, none⟩ = some (.int .i64 0) := (blk_cell BK339.out 0).trans rfl
        have hcz23_1 : w13.cell? ⟨gb339, 1, none⟩ = some (.int .i64 0) := (blk_cell BK339.out 1).trans rfl
        have hcz23_2 : w13.cell? ⟨gb339, 2, none⟩ = some (.int .i64 0) := (blk_cell BK339.out 2).trans rfl
        have hfz23_0 := blk_frozen BK339.out 0
        have hfz23_1 := blk_frozen BK339.out 1
        have hfz23_2 := blk_frozen BK339.out 2
        go_wp2
        go_meet
        case rel => exact ⟨_, (true), (by first | rfl | (simp; done) | (simp [*]; done)), H', ⟨by first | omega | exact Nat.le_refl _⟩, ⟨by (with_reducible repeat (first | apply Kd.R_alloc | apply Kd.R_drewN | apply Kd.R_drew)); exact Kd.R_mono (Kd.R_far (p := ⟨gb339, 2, none⟩) (Kd.R_far (p := ⟨gb339, 1, none⟩) (Kd.R_far (p := ⟨gb339, 0, none⟩) (Kd.R_mono HO329.out (fun k_ hk => (⟨hk, hk.2⟩ : _ ∧ k_ ≠ gb339))) (fun _ hk => hk.2) (.int .i64 t335)) (fun _ hk => hk.2) (.int .i64 t336)) (fun _ hk => hk.2) (.int .i64 t337)) (fun _ hk => ⟨hk.1.1.2, hk.1.2⟩)⟩, ⟨by (with_reducible repeat (first | apply blk_drewN | apply blk_drew | apply blk_alloc)); refine blk_far ?_ NB334_339.out _; (with_reducible repeat (first | apply blk_drewN | apply blk_drew | apply blk_alloc)); refine blk_far ?_ NB334_339.out _; (with_reducible repeat (first | apply blk_drewN | apply blk_drew | apply blk_alloc)); refine blk_far ?_ NB334_339.out _; (with_reducible repeat (first | apply blk_drewN | apply blk_drew | apply blk_alloc)); exact BK334.out⟩, ⟨by (with_reducible repeat (first | apply blk_drewN | apply blk_drew | apply blk_alloc)); refine blk_put (cs := #[.int .i64 t335, .int .i64 t336, .int .i64 0]) ?_ 2 _ rfl; (with_reducible repeat (first | apply blk_drewN | apply blk_drew | apply blk_alloc)); refine blk_put (cs := #[.int .i64 t335, .int .i64 0, .int .i64 0]) ?_ 1 _ rfl; (with_reducible repeat (first | apply blk_drewN | apply blk_drew | apply blk_alloc)); refine blk_put (cs := #[.int .i64 0, .int .i64 0, .int .i64 0]) ?_ 0 _ rfl; (with_reducible repeat (first | apply blk_drewN | apply blk_drew | apply blk_alloc)); exact BK339.out⟩, ⟨by repeat (first | (with_reducible first | exact HB.out | apply below_alloc | apply pw_below_drewN | apply below_drew1 | refine below_set ?_ GE334.out | refine below_set ?_ GE339.out) | exact HB.out)⟩⟩
      · rw [if_neg c20] at H
        have c20b0 : (t333 != t338) = false := by simpa using c20
        (try (have c20b1 : decide (t333 = t338) = true := by simpa using c20))
        (try (have c20b2 : (t333 == t338) = true := by simpa using c20))
        clear c20
        have H' := Aside0.mk H
        clear H
        have hnb24 := NB334_339.out
        have hnc24 := NB339_334.out
        have hcz25_0 : w13.cell? ⟨gb334, 0, none⟩ = some (.int .i64 t330) := (blk_cell BK334.out 0).trans rfl
        have hcz25_1 : w13.cell? ⟨gb334, 1, none⟩ = some (.int .i64 t331) := (blk_cell BK334.out 1).trans rfl
        have hcz25_2 : w13.cell? ⟨gb334, 2, none⟩ = some (.int .i64 t332) := (blk_cell BK334.out 2).trans rfl
        have hfz25_0 := blk_frozen BK334.out 0
        have hfz25_1 := blk_frozen BK334.out 1
        have hfz25_2 := blk_frozen BK334.out 2
        have hcz26_0 : w13.cell? ⟨gb339, 0, none⟩ = some (.int .i64 0) := (blk_cell BK339.out 0).trans rfl
        have hcz26_1 : w13.cell? ⟨gb339, 1, none⟩ = some (.int .i64 0) := (blk_cell BK339.out 1).trans rfl
        have hcz26_2 : w13.cell? ⟨gb339, 2, none⟩ = some (.int .i64 0) := (blk_cell BK339.out 2).trans rfl
        have hfz26_0 := blk_frozen BK339.out 0
        have hfz26_1 := blk_frozen BK339.out 1
        have hfz26_2 := blk_frozen BK339.out 2
        go_wp2
        go_meet
        case rel => exact ⟨_, (!t333), (by first | rfl | (simp; done) | (simp [*]; done)), H', ⟨by first | omega | exact Nat.le_refl _⟩, ⟨by (with_reducible repeat (first | apply Kd.R_alloc | apply Kd.R_drewN | apply Kd.R_drew)); exact Kd.R_mono (Kd.R_far (p := ⟨gb339, 2, none⟩) (Kd.R_far (p := ⟨gb339, 1, none⟩) (Kd.R_far (p := ⟨gb339, 0, none⟩) (Kd.R_mono HO329.out (fun k_ hk => (⟨hk, hk.2⟩ : _ ∧ k_ ≠ gb339))) (fun _ hk => hk.2) (.int .i64 t335)) (fun _ hk => hk.2) (.int .i64 t336)) (fun _ hk => hk.2) (.int .i64 t337)) (fun _ hk => ⟨hk.1.1.2, hk.1.2⟩)⟩, ⟨by (with_reducible repeat (first | apply blk_drewN | apply blk_drew | apply blk_alloc)); refine blk_far ?_ NB334_339.out _; (with_reducible repeat (first | apply blk_drewN | apply blk_drew | apply blk_alloc)); refine blk_far ?_ NB334_339.out _; (with_reducible repeat (first | apply blk_drewN | apply blk_drew | apply blk_alloc)); refine blk_far ?_ NB334_339.out _; (with_reducible repeat (first | apply blk_drewN | apply blk_drew | apply blk_alloc)); exact BK334.out⟩, ⟨by (with_reducible repeat (first | apply blk_drewN | apply blk_drew | apply blk_alloc)); refine blk_put (cs := #[.int .i64 t335, .int .i64 t336, .int .i64 0]) ?_ 2 _ rfl; (with_reducible repeat (first | apply blk_drewN | apply blk_drew | apply blk_alloc)); refine blk_put (cs := #[.int .i64 t335, .int .i64 0, .int .i64 0]) ?_ 1 _ rfl; (with_reducible repeat (first | apply blk_drewN | apply blk_drew | apply blk_alloc)); refine blk_put (cs := #[.int .i64 0, .int .i64 0, .int .i64 0]) ?_ 0 _ rfl; (with_reducible repeat (first | apply blk_drewN | apply blk_drew | apply blk_alloc)); exact BK339.out⟩, ⟨by repeat (first | (with_reducible first | exact HB.out | apply below_alloc | apply pw_below_drewN | apply below_drew1 | refine below_set ?_ GE334.out | refine below_set ?_ GE339.out) | exact HB.out)⟩⟩
   case rest =>
    clear HC6
    try clear c1
    try clear c2
    try clear c2b0
    try clear c2b1
    try clear p2
    try clear c3
    try clear c10
    try clear c14
    try clear c16
    try clear c16b0
    try clear c17
    try clear c20
    try clear c20b0
    try clear c20b1
    try clear c20b2
    try clear c21
    try clear c24
    try clear hcz11_0
    try clear hcz11_1
    try clear hcz11_2
    try clear hcz15_0
    try clear hcz15_1
    try clear hcz15_2
    try clear hcz18_0
    try clear hcz18_1
    try clear hcz18_2
    try clear hcz19_0
    try clear hcz19_1
    try clear hcz19_2
    try clear hcz22_0
    try clear hcz22_1
    try clear hcz22_2
    try clear hcz23_0
    try clear hcz23_1
    try clear hcz23_2
    try clear hcz25_0
    try clear hcz25_1
    try clear hcz25_2
    try clear hcz26_0
    try clear hcz26_1
    try clear hcz26_2
    try clear hfz11_0
    try clear hfz11_1
    try clear hfz11_2
    try clear hfz15_0
    try clear hfz15_1
    try clear hfz15_2
    try clear hfz18_0
    try clear hfz18_1
    try clear hfz18_2
    try clear hfz19_0
    try clear hfz19_1
    try clear hfz19_2
    try clear hfz22_0
    try clear hfz22_1
    try clear hfz22_2
    try clear hfz23_0
    try clear hfz23_1
    try clear hfz23_2
    try clear hfz25_0
    try clear hfz25_1
    try clear hfz25_2
    try clear hfz26_0
    try clear hfz26_1
    try clear hfz26_2
    obtain ⟨kq, x36_5, rfl, HA, HJ5, HO_3, BK334, BK339, HB⟩ := hcut
    cases kq with
    | zero => exact absurd HA.out (by simp [laws_FnBestSampleJitter.j0])
    | succ kj5 =>
     have H := HA.out
     clear HA
     simp only [laws_FnBestSampleJitter.j0] at H
     by_cases c27 : x36_5 = true
     · subst c27
       have H1 : (if (t330 == t335 && (t331 == t336 && (t332 == t337))) = true then (some (t333 == t338)) else (some false)) = some r := by rw [if_pos rfl] at H; exact H
       clear H
       have H := H1
       clear H1
       by_cases c28 : (t330 == t335 && (t331 == t336 && (t332 == t337))) = true
       · rw [if_pos c28] at H
         have c28b0 : (t330 == t335 && (t331 == t336 && (t332 == t337))) = true := c28
         (try (have c28b1 : decide (t330 = t335 && (t331 == t336 && (t332 == t337))) = true := by simpa using c28))
         (try (have c28b2 : (t330 == t335 && (t331 == t336 && (t332 == t337))) = true := by simpa using c28))
         clear c28
         obtain rfl := Option.some.inj H
         have hnb29 := NB334_339.out
         have hnc29 := NB339_334.out
         have hcz30_0 : wc.cell? ⟨gb334, 0, none⟩ = some (.int .i64 t330) := (blk_cell BK334.out 0).trans rfl
         have hcz30_1 : wc.cell? ⟨gb334, 1, none⟩ = some (.int .i64 t331) := (blk_cell BK334.out 1).trans rfl
         have hcz30_2 : wc.cell? ⟨gb334, 2, none⟩ = some (.int .i64 t332) := (blk_cell BK334.out 2).trans rfl
         have hfz30_0 := blk_frozen BK334.out 0
         have hfz30_1 := blk_frozen BK334.out 1
         have hfz30_2 := blk_frozen BK334.out 2
         have hcz31_0 : wc.cell? ⟨gb339, 0, none⟩ = some (.int .i64 t335) := (blk_cell BK339.out 0).trans rfl
         have hcz31_1 : wc.cell? ⟨gb339, 1, none⟩ = some (.int .i64 t336) := (blk_cell BK339.out 1).trans rfl
         have hcz31_2 : wc.cell? ⟨gb339, 2, none⟩ = some (.int .i64 t337) := (blk_cell BK339.out 2).trans rfl
         have hfz31_0 := blk_frozen BK339.out 0
         have hfz31_1 := blk_frozen BK339.out 1
         have hfz31_2 := blk_frozen BK339.out 2
         go_wp2
         go_ret
         exact ⟨by first | rfl | (simp [errW_none, errW_some] <;> rfl) | (simp [*, errW_none, errW_some] <;> rfl), by repeat (first | (with_reducible first | exact HB.out | apply below_alloc | apply pw_below_drewN | apply below_drew1 | refine below_set ?_ GE334.out | refine below_set ?_ GE339.out) | exact HB.out)⟩
       · rw [if_neg c28] at H
         have c28b0 : (t330 == t335 && (t331 == t336 && (t332 == t337))) = false := by simpa using c28
         (try (have c28b1 : decide (t330 = t335 && (t331 == t336 && (t332 == t337))) = false := by simpa using c28))
         (try (have c28b2 : (t330 == t335 && (t331 == t336 && (t332 == t337))) = false := by simpa using c28))
         (try (have c28b3 : ¬ (t330 = t335 && (t331 == t336 && (t332 == t337))) := by simpa using c28))
         clear c28
         obtain rfl := Option.some.inj H
         have hnb32 := NB334_339.out
         have hnc32 := NB339_334.out
         have hcz33_0 : wc.cell? ⟨gb334, 0, none⟩ = some (.int .i64 t330) := (blk_cell BK334.out 0).trans rfl
         have hcz33_1 : wc.cell? ⟨gb334, 1, none⟩ = some (.int .i64 t331) := (blk_cell BK334.out 1).trans rfl
         have hcz33_2 : wc.cell? ⟨gb334, 2, none⟩ = some (.int .i64 t332) := (blk_cell BK334.out 2).trans rfl
         have hfz33_0 := blk_frozen BK334.out 0
         have hfz33_1 := blk_frozen BK334.out 1
         have hfz33_2 := blk_frozen BK334.out 2
         have hcz34_0 : wc.cell? ⟨gb339, 0, none⟩ = some (.int .i64 t335) := (blk_cell BK339.out 0).trans rfl
         have hcz34_1 : wc.cell? ⟨gb339, 1, none⟩ = some (.int .i64 t336) := (blk_cell BK339.out 1).trans rfl
         have hcz34_2 : wc.cell? ⟨gb339, 2, none⟩ = some (.int .i64 t337) := (blk_cell BK339.out 2).trans rfl
         have hfz34_0 := blk_frozen BK339.out 0
         have hfz34_1 := blk_frozen BK339.out 1
         have hfz34_2 := blk_frozen BK339.out 2
         go_wp2
         go_ret
         exact ⟨by first | rfl | (simp [errW_none, errW_some] <;> rfl) | (simp [*, errW_none, errW_some] <;> rfl), by repeat (first | (with_reducible first | exact HB.out | apply below_alloc | apply pw_below_drewN | apply below_drew1 | refine below_set ?_ GE334.out | refine below_set ?_ GE339.out) | exact HB.out)⟩
     · replace c27 := Bool.eq_false_iff.mpr c27
       subst c27
       have H1 : ((some (([] : List (S32)) : List (S32))).bind fun y340 => (if y340.length + t327.length < 5864062014805 then (laws_FnBestSampleJitter.l0 kj5 t327 (y340 ++ t327) 0) else (none))) = some r := by rw [if_neg (show ¬ (false = true) by decide)] at H; exact H
       clear H
       have H := H1
       clear H1
       obtain ⟨y340, hy340⟩ : ∃ y_ : List (S32), y_ = (([] : List (S32))) := ⟨_, rfl⟩
       replace H : (if y340.length + t327.length < 5864062014805 then (laws_FnBestSampleJitter.l0 kj5 t327 (y340 ++ t327) 0) else (none)) = some r := by first | (rw [hy340]; with_reducible exact H) | (have H2_ := (Option.bind_some _ _).symm.trans H; rw [hy340]; with_reducible exact H2_) | (have H2_ := (Option.bind_some _ _).symm.trans H; with_reducible exact H2_) | with_reducible exact H | (rw [hy340]; exact H) | exact H
       have Ny340 := Aside0.mk hy340
       clear hy340
       by_cases c35 : y340.length + t327.length < 5864062014805
       · rw [if_pos c35] at H
         have LMc35 := Aside0.mk c35
         clear c35
         obtain ⟨y343, hy343⟩ : ∃ y_ : List (S32), y_ = (y340 ++ t327) := ⟨_, rfl⟩
         replace H : (laws_FnBestSampleJitter.l0 kj5 t327 y343 0) = some r := by first | (rw [hy343]; with_reducible exact H) | (have H2_ := (Option.bind_some _ _).symm.trans H; rw [hy343]; with_reducible exact H2_) | (have H2_ := (Option.bind_some _ _).symm.trans H; with_reducible exact H2_) | with_reducible exact H | (rw [hy343]; exact H) | exact H
         have Ny343 := Aside0.mk hy343
         clear hy343
         have H' := Aside0.mk H
         clear H
         go_wp2_with (first | ((with_reducible refine gate_dst (N := 45) rfl ?_); (try (refine gate_guard (by rfl) ?_; dsimp only)); refine Kd.R_lit k32 _ 32 ?hg (N := 45) ?hd (xs := ([] : List (S32))) (inner := []) (ok := fun _ => True) (okp := fun _ => True) ?hr ?hp (fun _ hk => hk) trivial (Below.refl _ _) (Nat.le_refl _) (by simp) ?_; (case hd => rfl); (case hg => rfl); (case hr => first | (go_simp; done) | (go_simp; rfl)); (case hp => exact (Reps.none _ _)); intro v341 w36 ho37 hb hg_ hnew_; clear hg_ hnew_; (first | rw [← Ny340.out] at ho37 | (simp only [Int.reduceToNat] at ho37; rw [← Ny340.out] at ho37)); have n0_ := Aside0.mk (Kd.R_elder' (by (with_reducible repeat (first | apply Kd.R_alloc | apply Kd.R_drewN | apply Kd.R_drew)); exact HO_3.out) (Kd.R_base ho37) hb); have n1_ := Aside0.mk (Kd.R_lower (Kd.R_newB (Kd.R_newB (Kd.R_new' ho37 (Kd.R_lt (by (with_reducible repeat (first | apply Kd.R_alloc | apply Kd.R_drewN | apply Kd.R_drew)); exact HO_3.out))) (g := gb334) (o := .cells #[.int .i64 t330, .int .i64 t331, .int .i64 t332] 32 (0, 0)) (by (with_reducible repeat (first | apply blk_drewN | apply blk_drew | apply blk_alloc)); exact BK334.out)) (g := gb339) (o := .cells #[.int .i64 t335, .int .i64 t336, .int .i64 t337] 32 (0, 0)) (by (with_reducible repeat (first | apply blk_drewN | apply blk_drew | apply blk_alloc)); exact BK339.out)) (below_size (by repeat (first | (with_reducible first | exact HB.out | apply below_alloc | apply pw_below_drewN | apply below_drew1 | refine below_set ?_ GE334.out | refine below_set ?_ GE339.out) | exact HB.out)))); have n2_ := Aside0.mk (blk_below (g := gb334) (o := .cells #[.int .i64 t330, .int .i64 t331, .int .i64 t332] 32 (0, 0)) (by (with_reducible repeat (first | apply blk_drewN | apply blk_drew | apply blk_alloc)); exact BK334.out) hb); have n3_ := Aside0.mk (blk_below (g := gb339) (o := .cells #[.int .i64 t335, .int .i64 t336, .int .i64 t337] 32 (0, 0)) (by (with_reducible repeat (first | apply blk_drewN | apply blk_drew | apply blk_alloc)); exact BK339.out) hb); have n4_ := Aside0.mk (below_step (by repeat (first | (with_reducible first | exact HB.out | apply below_alloc | apply pw_below_drewN | apply below_drew1 | refine below_set ?_ GE334.out | refine below_set ?_ GE339.out) | exact HB.out)) hb); clear HO_3; clear BK334; clear BK339; clear HB; have HO_3 := n0_; have HO342 := n1_; have BK334 := n2_; have BK339 := n3_; have HB := n4_; clear n0_ n1_ n2_ n3_ n4_; clear hb ho37) | ((with_reducible refine gate_builtin (b := .append) (xs := #[.tmp 45, .tmp 46]) rfl ?_); (try (refine gate_guard (by rfl) ?_; dsimp only)); at_builtin; refine Kd.R_append_rows k32 (w0 := w) w.heap.size rfl (.tmp 45) (.tmp 46) 23 32 (.agg #[(.int .i64 0), (.int .i64 0), (.int .i64 0)]) 24 rfl Try.underlying23 info32 rfl (by decide) (by omega) v341 y340 t327 _ _ _ (fun k_ => some k_ ≠ (.slice Ao8 t327.length co8 : Value).ownBlock ∧ k_ ≠ gb334 ∧ k_ ≠ gb339) (fun _ => False) rfl rfl ?aO ?aR (fun _ _ h => h) (fun _ h => h.elim) ?aF ?aB ?aS ?aL ?_; (case aR => repeat (first | exact (Kd.R_reads' HO_3.out).2.2 | (with_reducible refine Kd.C_alloc ?_ _) | (with_reducible refine Kd.C_drewN ?_ _) | (with_reducible refine Kd.C_drew ?_))); (case aB => exact (by repeat (first | (with_reducible first | exact HB.out | apply below_alloc | apply pw_below_drewN | apply below_drew1 | refine below_set ?_ GE334.out | refine below_set ?_ GE339.out) | exact HB.out))); (case aF => exact (fun k_ hk => ⟨Kd.fresh' (Kd.R_lt (by (with_reducible repeat (first | apply Kd.R_alloc | apply Kd.R_drewN | apply Kd.R_drew)); exact HO_3.out)) k_ hk, Kd.freshB (g := gb334) (o := .cells #[.int .i64 t330, .int .i64 t331, .int .i64 t332] 32 (0, 0)) (by (with_reducible repeat (first | apply blk_drewN | apply blk_drew | apply blk_alloc)); exact BK334.out) k_ hk, Kd.freshB (g := gb339) (o := .cells #[.int .i64 t335, .int .i64 t336, .int .i64 t337] 32 (0, 0)) (by (with_reducible repeat (first | apply blk_drewN | apply blk_drew | apply blk_alloc)); exact BK339.out) k_ hk⟩)); (case aO => exact (by (with_reducible repeat (first | apply Kd.R_alloc | apply Kd.R_drewN | apply Kd.R_drew)); exact Kd.R_mono HO342.out (fun _ hk => ⟨hk.1.1.2, ⟨hk.1.2, hk.2⟩⟩))); (case aS => exact (below_size (by repeat (first | (with_reducible first | exact HB.out | apply below_alloc | apply pw_below_drewN | apply below_drew1 | refine below_set ?_ GE334.out | refine below_set ?_ GE339.out) | exact HB.out)))); (case aL => have := LMc35.out; omega); intro v344 w38 ho hb hg hat; rw [← Ny343.out] at ho; have n0_ := Aside0.mk (Kd.R_after (ok := (fun k_ => k_ ≠ gb334 ∧ k_ ≠ gb339)) (by (with_reducible repeat (first | apply Kd.R_alloc | apply Kd.R_drewN | apply Kd.R_drew)); exact HO_3.out) hg hat); have n1_ := Aside0.mk (blk_grown (g := gb334) (o := .cells #[.int .i64 t330, .int .i64 t331, .int .i64 t332] 32 (0, 0)) (by (with_reducible repeat (first | apply blk_drewN | apply blk_drew | apply blk_alloc)); exact BK334.out) hg (Kd.R_away HO342.out (fun _ hk => hk.1.2))); have n2_ := Aside0.mk (blk_grown (g := gb339) (o := .cells #[.int .i64 t335, .int .i64 t336, .int .i64 t337] 32 (0, 0)) (by (with_reducible repeat (first | apply blk_drewN | apply blk_drew | apply blk_alloc)); exact BK339.out) hg (Kd.R_away HO342.out (fun _ hk => hk.2))); have n3_ := Aside0.mk (hb); have n4_ := Aside0.mk (ho); clear HO_3; clear BK334; clear BK339; clear HB; clear HO342; have HO_3 := n0_; have BK334 := n1_; have BK339 := n2_; have HB := n3_; have HO345 := n4_; clear n0_ n1_ n2_ n3_ n4_; clear ho hb hg hat))
         go_loopg [9] kj5 (fun kq v9 w' => ∃ (x8_2 : List (S32)) (x9_2 : Int) (x335000_2 : Int) (x340000_2 : Int), v9 = .int .i64 x9_2 ∧ Aside0 (laws_FnBestSampleJitter.l0 kq t327 x8_2 x9_2 = some r) ∧ Aside0 (kq ≤ kj5) ∧ Aside0 (Kd.R k32 32 w' w.heap.size (fun k_ => some k_ ≠ (v344 : Value).ownBlock ∧ k_ ≠ gb334 ∧ k_ ≠ gb339) (.slice Ao8 t327.length co8) t327) ∧ Aside0 (Kd.R k32 32 w' w.heap.size (fun k_ => some k_ ≠ ((.slice Ao8 t327.length co8) : Value).ownBlock ∧ k_ ≠ gb334 ∧ k_ ≠ gb339) v344 x8_2) ∧ Aside0 (w'.heap[gb334]? = some (.cells #[.int .i64 x335000_2, .int .i64 t331, .int .i64 t332] 32 (0, 0))) ∧ Aside0 (w'.heap[gb339]? = some (.cells #[.int .i64 x340000_2, .int .i64 t336, .int .i64 t337] 32 (0, 0))) ∧ Aside0 (Below w.heap.size w w'))
         case atStart => exact ⟨(y343), (0), (t330), (t335), (by first | rfl | (simp; done) | (simp [*]; done)), H', ⟨Nat.le_refl _⟩, ⟨by (with_reducible repeat (first | apply Kd.R_alloc | apply Kd.R_drewN | apply Kd.R_drew)); exact Kd.R_mono HO_3.out (fun _ hk => ⟨hk.2, ⟨hk.1.1, hk.1.2⟩⟩)⟩, ⟨by (with_reducible repeat (first | apply Kd.R_alloc | apply Kd.R_drewN | apply Kd.R_drew)); exact HO345.out⟩, ⟨by (with_reducible repeat (first | apply blk_drewN | apply blk_drew | apply blk_alloc)); exact BK334.out⟩, ⟨by (with_reducible repeat (first | apply blk_drewN | apply blk_drew | apply blk_alloc)); exact BK339.out⟩, ⟨by repeat (first | (with_reducible first | exact HB.out | apply below_alloc | apply pw_below_drewN | apply below_drew1 | refine below_set ?_ GE334.out | refine below_set ?_ GE339.out) | exact HB.out)⟩⟩
         case round =>
          clear H'
          try clear c1
          try clear c2
          try clear c2b0
          try clear c2b1
          try clear p2
          try clear c3
          try clear c10
          try clear c14
          try clear c16
          try clear c16b0
          try clear c17
          try clear c20
          try clear c20b0
          try clear c20b1
          try clear c20b2
          try clear c21
          try clear c24
          try clear c27
          try clear c28
          try clear c28b0
          try clear c28b1
          try clear c28b2
          try clear c29
          try clear c30
          try clear c32
          try clear c35
          try clear hcz11_0
          try clear hcz11_1
          try clear hcz11_2
          try clear hcz15_0
          try clear hcz15_1
          try clear hcz15_2
          try clear hcz18_0
          try clear hcz18_1
          try clear hcz18_2
          try clear hcz19_0
          try clear hcz19_1
          try clear hcz19_2
          try clear hcz22_0
          try clear hcz22_1
          try clear hcz22_2
          try clear hcz23_0
          try clear hcz23_1
          try clear hcz23_2
          try clear hcz25_0
          try clear hcz25_1
          try clear hcz25_2
          try clear hcz26_0
          try clear hcz26_1
          try clear hcz26_2
          try clear hcz30_0
          try clear hcz30_1
          try clear hcz30_2
          try clear hcz31_0
          try clear hcz31_1
          try clear hcz31_2
          try clear hcz33_0
          try clear hcz33_1
          try clear hcz33_2
          try clear hcz34_0
          try clear hcz34_1
          try clear hcz34_2
          try clear hfz11_0
          try clear hfz11_1
          try clear hfz11_2
          try clear hfz15_0
          try clear hfz15_1
          try clear hfz15_2
          try clear hfz18_0
          try clear hfz18_1
          try clear hfz18_2
          try clear hfz19_0
          try clear hfz19_1
          try clear hfz19_2
          try clear hfz22_0
          try clear hfz22_1
          try clear hfz22_2
          try clear hfz23_0
          try clear hfz23_1
          try clear hfz23_2
          try clear hfz25_0
          try clear hfz25_1
          try clear hfz25_2
          try clear hfz26_0
          try clear hfz26_1
          try clear hfz26_2
          try clear hfz30_0
          try clear hfz30_1
          try clear hfz30_2
          try clear hfz31_0
          try clear hfz31_1
          try clear hfz31_2
          try clear hfz33_0
          try clear hfz33_1
          try clear hfz33_2
          try clear hfz34_0
          try clear hfz34_1
          try clear hfz34_2
          try clear p2
          obtain ⟨x8_2, x9_2, x335000_2, x340000_2, rfl, HA, HK2, HO_3, HO_8, BK334, BK339, HB⟩ := hrel
          cases gk with
          | zero => exact absurd HA.out (by simp [laws_FnBestSampleJitter.l0])
          | succ k2 =>
           have H := HA.out
           clear HA
           simp only [laws_FnBestSampleJitter.l0] at H
           by_cases c39 : x9_2 < (x8_2.length : Int)
           · rw [if_pos c39] at H
             have c39b0 : decide (x9_2 < (x8_2.length : Int)) = true := decide_eq_true c39
             clear c39
             by_cases c40 : 0 ≤ x9_2
             · rw [if_pos c40] at H
               have c40b0 : decide (0 ≤ x9_2) = true := decide_eq_true c40
               clear c40
               obtain ⟨y346, hy346⟩ : ∃ y_ : List (S32), y_ = (x8_2.set (x9_2 : Int).toNat (⟨12, (rd_T32 x8_2 x9_2).f1, (rd_T32 x8_2 x9_2).f2⟩ : S32)) := ⟨_, rfl⟩
               replace H : (laws_FnBestSampleJitter.l0 k2 t327 y346 (wrap64 (x9_2 + 1))) = some r := by first | (rw [hy346]; with_reducible exact H) | (have H2_ := (Option.bind_some _ _).symm.trans H; rw [hy346]; with_reducible exact H2_) | (have H2_ := (Option.bind_some _ _).symm.trans H; with_reducible exact H2_) | with_reducible exact H | (rw [hy346]; exact H) | exact H
               have Ny346 := Aside0.mk hy346
               clear hy346
               have H' := Aside0.mk H
               clear H
               obtain ⟨Ao42, co42, eo42⟩ := Kd.R_slice HO_8.out
               subst eo42
               have p41 : 0 ≤ (x9_2 : Int) := of_decide_eq_true (by first | (with_reducible assumption) | assumption)
               have q41 : (x9_2 : Int) < ((x8_2.length : Int) : Int) := of_decide_eq_true (by first | (with_reducible assumption) | assumption)
               obtain ⟨go41, co41, eo41, gb41, gl41, cl41, HG41⟩ := Kd.R_form HO_8.out (by omega)
               (first | cases eo41 | (injection eo41 with ea_ en_ ec_; (first | subst ea_ | (injection ea_ with ea_; subst ea_)); subst ec_; clear en_))
               have GB41 := Aside0.mk gb41
               have GG41 := Aside0.mk HG41
               clear gb41 gl41 HG41
               obtain ⟨ce41, hcl41, hM41, hcc41, hfr41⟩ := Kd.R_elem HO_8.out z32 (x9_2 : Int) p41 q41
               obtain rfl := k32_openM hM41
               have hx41_0 : wr.cell? ⟨go41, (x9_2 : Int).toNat * 3, none⟩ = some (.int .i64 ((rd_T32 x8_2 x9_2).f0)) := hcc41 0 _ rfl
               have hx41_1 : wr.cell? ⟨go41, (x9_2 : Int).toNat * 3 + 1, none⟩ = some (.int .i64 ((rd_T32 x8_2 x9_2).f1)) := hcc41 1 _ rfl
               have hx41_2 : wr.cell? ⟨go41, (x9_2 : Int).toNat * 3 + 2, none⟩ = some (.int .i64 ((rd_T32 x8_2 x9_2).f2)) := hcc41 2 _ rfl
               have hf41_0 : wr.frozen? ⟨go41, (x9_2 : Int).toNat * 3, none⟩ = false := hfr41 0
               have hf41_1 : wr.frozen? ⟨go41, (x9_2 : Int).toNat * 3 + 1, none⟩ = false := hfr41 1
               have hf41_2 : wr.frozen? ⟨go41, (x9_2 : Int).toNat * 3 + 2, none⟩ = false := hfr41 2
               clear hcl41 hcc41 hfr41 hM41
               replace p41 := eq_true p41
               replace q41 := eq_true q41
               have HX43 := Aside0.mk (show Kd.R k32 32 wr w.heap.size (fun k_ => some k_ ≠ (.slice Ao8 t327.length co8 : Value).ownBlock ∧ k_ ≠ gb334 ∧ k_ ≠ gb339) (.slice (some ⟨go41, 0, none⟩) x8_2.length co42) x8_2 from (by (with_reducible repeat (first | apply Kd.R_alloc | apply Kd.R_drewN | apply Kd.R_drew)); exact HO_8.out))
               obtain ⟨ce43, hcl43, hM43, hcc43, hfr43⟩ := Kd.R_elem HX43.out z32 (x9_2 : Int) (of_decide_eq_true (by first | (with_reducible assumption) | assumption)) (by have h_ : (x9_2 : Int) < ((x8_2.length : Int) : Int) := of_decide_eq_true (by first | (with_reducible assumption) | assumption); first | exact h_ | (have e_ := (Kd.R_reads' HO_8.out).1; omega) | simpa using h_)
               obtain rfl := k32_openM hM43
               have HP43 := Kd.R_seg HX43.out (x9_2 : Int) (of_decide_eq_true (by first | (with_reducible assumption) | assumption)) (by have h_ : (x9_2 : Int) < ((x8_2.length : Int) : Int) := of_decide_eq_true (by first | (with_reducible assumption) | assumption); first | exact h_ | (have e_ := (Kd.R_reads' HO_8.out).1; omega) | simpa using h_) (seg := [.int .i64 12]) (j := 0) hcl43 hcc43 (show 1 ≤ 3 from by decide) (x' := (⟨12, (rd_T32 x8_2 x9_2).f1, (rd_T32 x8_2 x9_2).f2⟩ : S32)) (k32_mkM _ _ _ (⟨12, (rd_T32 x8_2 x9_2).f1, (rd_T32 x8_2 x9_2).f2⟩ : S32) ) (fun _ hk => hk)
               have hx43_0 := hcc43 0 _ rfl
               (try simp only [show (k32).sz = 3 from rfl, Nat.mul_one, Nat.add_zero] at hx43_0)
               have hf43_0 := hfr43 0
               (try simp only [show (k32).sz = 3 from rfl, Nat.mul_one, Nat.add_zero] at hf43_0)
               clear hcl43 hcc43 hfr43 hM43
               go_wp2_with (first | ((with_reducible refine gate_store (t := 3) (p := 57) rfl ?_); refine store_event (t := 3) (p := 57) (v := ?vo_w44) (w1 := (wr.setCell ⟨go41, (x9_2 : Int).toNat * 3, none⟩ (.int .i64 12))) ?hg ?ho ?hn ?hr ?_; (case ho => rfl); (case hg => rfl); (case hn => rfl); (case hr => first | (go_simp; done) | (go_simp; rfl)); intro w44 hw; have hg : wr.grownBy w44 (some go41) := (by rw [hw]; exact HP43.2); have hp_ : Kd.R k32 32 w44 w.heap.size (fun k_ => some k_ ≠ (.slice Ao8 t327.length co8 : Value).ownBlock ∧ k_ ≠ gb334 ∧ k_ ≠ gb339) (.slice (some ⟨go41, 0, none⟩) x8_2.length co42) y346 := (by rw [hw, Ny346.out]; exact HP43.1); clear HP43; have n0_ := Aside0.mk (Kd.R_after (v := (.slice (some ⟨go41, 0, none⟩) x8_2.length co42)) (v1 := (.slice (some ⟨go41, 0, none⟩) x8_2.length co42)) (ok := (fun k_ => k_ ≠ gb334 ∧ k_ ≠ gb339)) (by (with_reducible repeat (first | apply Kd.R_alloc | apply Kd.R_drewN | apply Kd.R_drew)); exact Kd.R_mono HO_3.out (fun _ hk => ⟨⟨hk.2.1, hk.2.2⟩, hk.1⟩)) hg (.inl rfl)); have n1_ := Aside0.mk (hp_); have n2_ := Aside0.mk (blk_grown (g := gb334) (o := .cells #[.int .i64 x335000_2, .int .i64 t331, .int .i64 t332] 32 (0, 0)) (by (with_reducible repeat (first | apply blk_drewN | apply blk_drew | apply blk_alloc)); exact BK334.out) hg (Kd.R_away HO_8.out (fun _ hk => hk.2.1))); have n3_ := Aside0.mk (blk_grown (g := gb339) (o := .cells #[.int .i64 x340000_2, .int .i64 t336, .int .i64 t337] 32 (0, 0)) (by (with_reducible repeat (first | apply blk_drewN | apply blk_drew | apply blk_alloc)); exact BK339.out) hg (Kd.R_away HO_8.out (fun _ hk => hk.2.2))); have n4_ := Aside0.mk ((by rw [hw]; exact below_set (HB.out) GB41.out : Below w.heap.size w w44)); clear HO_3; clear HO_8; clear BK334; clear BK339; clear HB; have HO_3 := n0_; have HO_8 := n1_; have BK334 := n2_; have BK339 := n3_; have HB := n4_; clear n0_ n1_ n2_ n3_ n4_; clear hg hw hp_))
               go_roundg k2
               case measure => have := HJ5.out; have := HK2.out; omega
               case rel => exact ⟨(y346), (wrap64 (x9_2 + 1)), (x335000_2), (x340000_2), (by first | rfl | (simp; done) | (simp [*]; done)), H', ⟨by have := HJ5.out; have := HK2.out; omega⟩, ⟨by (with_reducible repeat (first | apply Kd.R_alloc | apply Kd.R_drewN | apply Kd.R_drew)); exact Kd.R_mono HO_3.out (fun _ hk => ⟨hk.2, ⟨hk.1.1, hk.1.2⟩⟩)⟩, ⟨by (with_reducible repeat (first | apply Kd.R_alloc | apply Kd.R_drewN | apply Kd.R_drew)); exact HO_8.out⟩, ⟨by (with_reducible repeat (first | apply blk_drewN | apply blk_drew | apply blk_alloc)); exact BK334.out⟩, ⟨by (with_reducible repeat (first | apply blk_drewN | apply blk_drew | apply blk_alloc)); exact BK339.out⟩, ⟨by repeat (first | (with_reducible first | exact HB.out | apply below_alloc | apply pw_below_drewN | apply below_drew1 | refine below_set ?_ GE334.out | refine below_set ?_ GE339.out) | exact HB.out)⟩⟩
             · rw [if_neg c40] at H
               exact absurd H (by simp)
           · rw [if_neg c39] at H
             have c39b0 : decide (x9_2 < (x8_2.length : Int)) = false := decide_eq_false c39
             clear c39
             replace H := Option.bind_eq_some_iff.mp H
             obtain ⟨t347, A450, H⟩ := H
             replace H : (if t347 = 0 then ((impl_MedianOffset.f k2 x8_2).bind fun t348 => (if t348 = 12 then ((impl_WithoutSpikes.f k2 x8_2 0).bind fun t349 => (some ((t349.length : Int) == (t327.length : Int)))) else (some false))) else (some false)) = some r := H
             have A45 := Aside0.mk A450
             clear A450
             by_cases c46 : t347 = 0
             · rw [if_pos c46] at H
               have c46b0 : (t347 == 0) = true := beq_iff_eq.mpr c46
               have c46b1 : (t347 != 0) = false := bne_eq_false_iff_eq.mpr c46
               clear c46
               replace H := Option.bind_eq_some_iff.mp H
               obtain ⟨t348, A470, H⟩ := H
               replace H : (if t348 = 12 then ((impl_WithoutSpikes.f k2 x8_2 0).bind fun t349 => (some ((t349.length : Int) == (t327.length : Int)))) else (some false)) = some r := H
               have A47 := Aside0.mk A470
               clear A470
               by_cases c48 : t348 = 12
               · rw [if_pos c48] at H
                 have c48b0 : (t348 == 12) = true := beq_iff_eq.mpr c48
                 have c48b1 : (t348 != 12) = false := bne_eq_false_iff_eq.mpr c48
                 clear c48
                 replace H := Option.bind_eq_some_iff.mp H
                 obtain ⟨t349, A490, H⟩ := H
                 replace H : (some ((t349.length : Int) == (t327.length : Int))) = some r := H
                 have A49 := Aside0.mk A490
                 clear A490
                 obtain rfl := Option.some.inj H
                 obtain ⟨Ao50, co50, eo50⟩ := Kd.R_slice HO_8.out
                 subst eo50
                 go_wp2_with (first | ((with_reducible refine gate_callee (f := 18) rfl ?_); refine goesL_ (some 59) rfl rfl Try.func18 (by kernel_rfl) rfl #[.slice Ao50 x8_2.length co50] rfl (by (try simp only [List.map_toArray, List.map_cons, List.map_nil]); first | done | rfl | (simp only [List.length_drop, List.length_take]; rfl)) ?_; (with_reducible refine (impl_JitterOf.calls k2 _ _ x8_2 t347 _ ?side1 ?side2 A45.out).mono ?_); (case side1 => repeat (first | exact (Kd.R_reads' HO_8.out).2.2 | (with_reducible refine Kd.C_alloc ?_ _) | (with_reducible refine Kd.C_drewN ?_ _) | (with_reducible refine Kd.C_drew ?_))); (case side2 => exact (Kd.R_reads' HO_8.out).2.1); rintro e w51 ⟨rfl, hb⟩; refine ⟨_, rfl, ?_⟩; have n0_ := Aside0.mk (Kd.R_below (by (with_reducible repeat (first | apply Kd.R_alloc | apply Kd.R_drewN | apply Kd.R_drew)); exact HO_3.out) hb); have n1_ := Aside0.mk (Kd.R_below (by (with_reducible repeat (first | apply Kd.R_alloc | apply Kd.R_drewN | apply Kd.R_drew)); exact HO_8.out) hb); have n2_ := Aside0.mk (blk_below (g := gb334) (o := .cells #[.int .i64 x335000_2, .int .i64 t331, .int .i64 t332] 32 (0, 0)) (by (with_reducible repeat (first | apply blk_drewN | apply blk_drew | apply blk_alloc)); exact BK334.out) hb); have n3_ := Aside0.mk (blk_below (g := gb339) (o := .cells #[.int .i64 x340000_2, .int .i64 t336, .int .i64 t337] 32 (0, 0)) (by (with_reducible repeat (first | apply blk_drewN | apply blk_drew | apply blk_alloc)); exact BK339.out) hb); have n4_ := Aside0.mk (below_step (by repeat (first | (with_reducible first | exact HB.out | apply below_alloc | apply pw_below_drewN | apply below_drew1 | refine below_set ?_ GE334.out | refine below_set ?_ GE339.out) | exact HB.out)) hb); clear HO_3; clear HO_8; clear BK334; clear BK339; clear HB; have HO_3 := n0_; have HO_8 := n1_; have BK334 := n2_; have BK339 := n3_; have HB := n4_; clear n0_ n1_ n2_ n3_ n4_; (try clear hb); (try clear hb2); (try clear hk); (try clear hi)) | (go_at_call 17; (with_reducible refine (impl_MedianOffset.calls k2 _ _ x8_2 t348 _ ?side1 ?side2 A47.out).mono ?_); (case side1 => repeat (first | exact (Kd.R_reads' HO_8.out).2.2 | (with_reducible refine Kd.C_alloc ?_ _) | (with_reducible refine Kd.C_drewN ?_ _) | (with_reducible refine Kd.C_drew ?_))); (case side2 => exact (Kd.R_reads' HO_8.out).2.1); rintro e w52 ⟨rfl, hb⟩; have n0_ := Aside0.mk (Kd.R_below (by (with_reducible repeat (first | apply Kd.R_alloc | apply Kd.R_drewN | apply Kd.R_drew)); exact HO_3.out) hb); have n1_ := Aside0.mk (Kd.R_below (by (with_reducible repeat (first | apply Kd.R_alloc | apply Kd.R_drewN | apply Kd.R_drew)); exact HO_8.out) hb); have n2_ := Aside0.mk (blk_below (g := gb334) (o := .cells #[.int .i64 x335000_2, .int .i64 t331, .int .i64 t332] 32 (0, 0)) (by (with_reducible repeat (first | apply blk_drewN | apply blk_drew | apply blk_alloc)); exact BK334.out) hb); have n3_ := Aside0.mk (blk_below (g := gb339) (o := .cells #[.int .i64 x340000_2, .int .i64 t336, .int .i64 t337] 32 (0, 0)) (by (with_reducible repeat (first | apply blk_drewN | apply blk_drew | apply blk_alloc)); exact BK339.out) hb); have n4_ := Aside0.mk (below_step (by repeat (first | (with_reducible first | exact HB.out | apply below_alloc | apply pw_below_drewN | apply below_drew1 | refine below_set ?_ GE334.out | refine below_set ?_ GE339.out) | exact HB.out)) hb); clear HO_3; clear HO_8; clear BK334; clear BK339; clear HB; have HO_3 := n0_; have HO_8 := n1_; have BK334 := n2_; have BK339 := n3_; have HB := n4_; clear n0_ n1_ n2_ n3_ n4_; (try clear hb); (try clear hb2); (try clear hk); (try clear hi)) | (go_at_call 12; (with_reducible refine (impl_WithoutSpikes.calls k2 _ _ x8_2 0 t349 _ ?side1 ?side2 A49.out).mono ?_); (case side1 => repeat (first | exact (Kd.R_reads' HO_8.out).2.2 | (with_reducible refine Kd.C_alloc ?_ _) | (with_reducible refine Kd.C_drewN ?_ _) | (with_reducible refine Kd.C_drew ?_))); (case side2 => exact (Kd.R_reads' HO_8.out).2.1); rintro e w53 ⟨v350, rfl, ho0, hb⟩; have n0_ := Aside0.mk (Kd.R_elder' (by (with_reducible repeat (first | apply Kd.R_alloc | apply Kd.R_drewN | apply Kd.R_drew)); exact HO_3.out) (Kd.R_base ho0) hb); have n1_ := Aside0.mk (Kd.R_elder' (by (with_reducible repeat (first | apply Kd.R_alloc | apply Kd.R_drewN | apply Kd.R_drew)); exact HO_8.out) (Kd.R_base ho0) hb); have n2_ := Aside0.mk (Kd.R_lower (Kd.R_newB (Kd.R_newB (Kd.R_new' (Kd.R_new' ho0 (Kd.R_lt (by (with_reducible repeat (first | apply Kd.R_alloc | apply Kd.R_drewN | apply Kd.R_drew)); exact HO_3.out))) (Kd.R_lt (by (with_reducible repeat (first | apply Kd.R_alloc | apply Kd.R_drewN | apply Kd.R_drew)); exact HO_8.out))) (g := gb334) (o := .cells #[.int .i64 x335000_2, .int .i64 t331, .int .i64 t332] 32 (0, 0)) (by (with_reducible repeat (first | apply blk_drewN | apply blk_drew | apply blk_alloc)); exact BK334.out)) (g := gb339) (o := .cells #[.int .i64 x340000_2, .int .i64 t336, .int .i64 t337] 32 (0, 0)) (by (with_reducible repeat (first | apply blk_drewN | apply blk_drew | apply blk_alloc)); exact BK339.out)) (below_size (by repeat (first | (with_reducible first | exact HB.out | apply below_alloc | apply pw_below_drewN | apply below_drew1 | refine below_set ?_ GE334.out | refine below_set ?_ GE339.out) | exact HB.out)))); have n3_ := Aside0.mk (blk_below (g := gb334) (o := .cells #[.int .i64 x335000_2, .int .i64 t331, .int .i64 t332] 32 (0, 0)) (by (with_reducible repeat (first | apply blk_drewN | apply blk_drew | apply blk_alloc)); exact BK334.out) hb); have n4_ := Aside0.mk (blk_below (g := gb339) (o := .cells #[.int .i64 x340000_2, .int .i64 t336, .int .i64 t337] 32 (0, 0)) (by (with_reducible repeat (first | apply blk_drewN | apply blk_drew | apply blk_alloc)); exact BK339.out) hb); have n5_ := Aside0.mk (below_step (by repeat (first | (with_reducible first | exact HB.out | apply below_alloc | apply pw_below_drewN | apply below_drew1 | refine below_set ?_ GE334.out | refine below_set ?_ GE339.out) | exact HB.out)) hb); clear HO_3; clear HO_8; clear BK334; clear BK339; clear HB; have HO_3 := n0_; have HO_8 := n1_; have HO351 := n2_; have BK334 := n3_; have BK339 := n4_; have HB := n5_; clear n0_ n1_ n2_ n3_ n4_ n5_; (try clear hb); (try clear hb2); (try clear hk); (try clear hi); (try clear ho0); obtain ⟨Ao54, co54, eo54⟩ := Kd.R_slice HO351.out; subst eo54))
                 go_ret
                 exact ⟨by first | rfl | (simp [errW_none, errW_some] <;> rfl) | (simp [*, errW_none, errW_some] <;> rfl), by repeat (first | (with_reducible first | exact HB.out | apply below_alloc | apply pw_below_drewN | apply below_drew1 | refine below_set ?_ GE334.out | refine below_set ?_ GE339.out) | exact HB.out)⟩
               · rw [if_neg c48] at H
                 have c48b0 : (t348 == 12) = false := beq_eq_false_iff_ne.mpr c48
                 have c48b1 : (t348 != 12) = true := bne_iff_ne.mpr c48
                 obtain rfl := Option.some.inj H
                 obtain ⟨Ao55, co55, eo55⟩ := Kd.R_slice HO_8.out
                 subst eo55
                 go_wp2_with (first | ((with_reducible refine gate_callee (f := 18) rfl ?_); refine goesL_ (some 59) rfl rfl Try.func18 (by kernel_rfl) rfl #[.slice Ao55 x8_2.length co55] rfl (by (try simp only [List.map_toArray, List.map_cons, List.map_nil]); first | done | rfl | (simp only [List.length_drop, List.length_take]; rfl)) ?_; (with_reducible refine (impl_JitterOf.calls k2 _ _ x8_2 t347 _ ?side1 ?side2 A45.out).mono ?_); (case side1 => repeat (first | exact (Kd.R_reads' HO_8.out).2.2 | (with_reducible refine Kd.C_alloc ?_ _) | (with_reducible refine Kd.C_drewN ?_ _) | (with_reducible refine Kd.C_drew ?_))); (case side2 => exact (Kd.R_reads' HO_8.out).2.1); rintro e w56 ⟨rfl, hb⟩; refine ⟨_, rfl, ?_⟩; have n0_ := Aside0.mk (Kd.R_below (by (with_reducible repeat (first | apply Kd.R_alloc | apply Kd.R_drewN | apply Kd.R_drew)); exact HO_3.out) hb); have n1_ := Aside0.mk (Kd.R_below (by (with_reducible repeat (first | apply Kd.R_alloc | apply Kd.R_drewN | apply Kd.R_drew)); exact HO_8.out) hb); have n2_ := Aside0.mk (blk_below (g := gb334) (o := .cells #[.int .i64 x335000_2, .int .i64 t331, .int .i64 t332] 32 (0, 0)) (by (with_reducible repeat (first | apply blk_drewN | apply blk_drew | apply blk_alloc)); exact BK334.out) hb); have n3_ := Aside0.mk (blk_below (g := gb339) (o := .cells #[.int .i64 x340000_2, .int .i64 t336, .int .i64 t337] 32 (0, 0)) (by (with_reducible repeat (first | apply blk_drewN | apply blk_drew | apply blk_alloc)); exact BK339.out) hb); have n4_ := Aside0.mk (below_step (by repeat (first | (with_reducible first | exact HB.out | apply below_alloc | apply pw_below_drewN | apply below_drew1 | refine below_set ?_ GE334.out | refine below_set ?_ GE339.out) | exact HB.out)) hb); clear HO_3; clear HO_8; clear BK334; clear BK339; clear HB; have HO_3 := n0_; have HO_8 := n1_; have BK334 := n2_; have BK339 := n3_; have HB := n4_; clear n0_ n1_ n2_ n3_ n4_; (try clear hb); (try clear hb2); (try clear hk); (try clear hi)) | (go_at_call 17; (with_reducible refine (impl_MedianOffset.calls k2 _ _ x8_2 t348 _ ?side1 ?side2 A47.out).mono ?_); (case side1 => repeat (first | exact (Kd.R_reads' HO_8.out).2.2 | (with_reducible refine Kd.C_alloc ?_ _) | (with_reducible refine Kd.C_drewN ?_ _) | (with_reducible refine Kd.C_drew ?_))); (case side2 => exact (Kd.R_reads' HO_8.out).2.1); rintro e w57 ⟨rfl, hb⟩; have n0_ := Aside0.mk (Kd.R_below (by (with_reducible repeat (first | apply Kd.R_alloc | apply Kd.R_drewN | apply Kd.R_drew)); exact HO_3.out) hb); have n1_ := Aside0.mk (Kd.R_below (by (with_reducible repeat (first | apply Kd.R_alloc | apply Kd.R_drewN | apply Kd.R_drew)); exact HO_8.out) hb); have n2_ := Aside0.mk (blk_below (g := gb334) (o := .cells #[.int .i64 x335000_2, .int .i64 t331, .int .i64 t332] 32 (0, 0)) (by (with_reducible repeat (first | apply blk_drewN | apply blk_drew | apply blk_alloc)); exact BK334.out) hb); have n3_ := Aside0.mk (blk_below (g := gb339) (o := .cells #[.int .i64 x340000_2, .int .i64 t336, .int .i64 t337] 32 (0, 0)) (by (with_reducible repeat (first | apply blk_drewN | apply blk_drew | apply blk_alloc)); exact BK339.out) hb); have n4_ := Aside0.mk (below_step (by repeat (first | (with_reducible first | exact HB.out | apply below_alloc | apply pw_below_drewN | apply below_drew1 | refine below_set ?_ GE334.out | refine below_set ?_ GE339.out) | exact HB.out)) hb); clear HO_3; clear HO_8; clear BK334; clear BK339; clear HB; have HO_3 := n0_; have HO_8 := n1_; have BK334 := n2_; have BK339 := n3_; have HB := n4_; clear n0_ n1_ n2_ n3_ n4_; (try clear hb); (try clear hb2); (try clear hk); (try clear hi)))
                 go_ret
                 exact ⟨by first | rfl | (simp [errW_none, errW_some] <;> rfl) | (simp [*, errW_none, errW_some] <;> rfl), by repeat (first | (with_reducible first | exact HB.out | apply below_alloc | apply pw_below_drewN | apply below_drew1 | refine below_set ?_ GE334.out | refine below_set ?_ GE339.out) | exact HB.out)⟩
             · rw [if_neg c46] at H
               have c46b0 : (t347 == 0) = false := beq_eq_false_iff_ne.mpr c46
               have c46b1 : (t347 != 0) = true := bne_iff_ne.mpr c46
               obtain rfl := Option.some.inj H
               obtain ⟨Ao58, co58, eo58⟩ := Kd.R_slice HO_8.out
               subst eo58
               go_wp2_with (first | ((with_reducible refine gate_callee (f := 18) rfl ?_); refine goesL_ (some 59) rfl rfl Try.func18 (by kernel_rfl) rfl #[.slice Ao58 x8_2.length co58] rfl (by (try simp only [List.map_toArray, List.map_cons, List.map_nil]); first | done | rfl | (simp only [List.length_drop, List.length_take]; rfl)) ?_; (with_reducible refine (impl_JitterOf.calls k2 _ _ x8_2 t347 _ ?side1 ?side2 A45.out).mono ?_); (case side1 => repeat (first | exact (Kd.R_reads' HO_8.out).2.2 | (with_reducible refine Kd.C_alloc ?_ _) | (with_reducible refine Kd.C_drewN ?_ _) | (with_reducible refine Kd.C_drew ?_))); (case side2 => exact (Kd.R_reads' HO_8.out).2.1); rintro e w59 ⟨rfl, hb⟩; refine ⟨_, rfl, ?_⟩; have n0_ := Aside0.mk (Kd.R_below (by (with_reducible repeat (first | apply Kd.R_alloc | apply Kd.R_drewN | apply Kd.R_drew)); exact HO_3.out) hb); have n1_ := Aside0.mk (Kd.R_below (by (with_reducible repeat (first | apply Kd.R_alloc | apply Kd.R_drewN | apply Kd.R_drew)); exact HO_8.out) hb); have n2_ := Aside0.mk (blk_below (g := gb334) (o := .cells #[.int .i64 x335000_2, .int .i64 t331, .int .i64 t332] 32 (0, 0)) (by (with_reducible repeat (first | apply blk_drewN | apply blk_drew | apply blk_alloc)); exact BK334.out) hb); have n3_ := Aside0.mk (blk_below (g := gb339) (o := .cells #[.int .i64 x340000_2, .int .i64 t336, .int .i64 t337] 32 (0, 0)) (by (with_reducible repeat (first | apply blk_drewN | apply blk_drew | apply blk_alloc)); exact BK339.out) hb); have n4_ := Aside0.mk (below_step (by repeat (first | (with_reducible first | exact HB.out | apply below_alloc | apply pw_below_drewN | apply below_drew1 | refine below_set ?_ GE334.out | refine below_set ?_ GE339.out) | exact HB.out)) hb); clear HO_3; clear HO_8; clear BK334; clear BK339; clear HB; have HO_3 := n0_; have HO_8 := n1_; have BK334 := n2_; have BK339 := n3_; have HB := n4_; clear n0_ n1_ n2_ n3_ n4_; (try clear hb); (try clear hb2); (try clear hk); (try clear hi)))
               go_ret
               exact ⟨by first | rfl | (simp [errW_none, errW_some] <;> rfl) | (simp [*, errW_none, errW_some] <;> rfl), by repeat (first | (with_reducible first | exact HB.out | apply below_alloc | apply pw_below_drewN | apply below_drew1 | refine below_set ?_ GE334.out | refine below_set ?_ GE339.out) | exact HB.out)⟩
       · rw [if_neg c35] at H
         exact absurd H (by simp)

/-- THE ONE PURE STATEMENT of laws_FnBestSampleJitter: yours. -/
def laws_FnBestSampleJitter.Pure : Prop := ∀ (l0 : List Int), l0.length ≤ maxLen → l0.length * 1 ≤ 140737488351232 → (∀ x ∈ l0, (Lit.int .u8 x).wf = true) → ∃ k, laws_FnBestSampleJitter.f k l0 = some true
theorem laws_FnBestSampleJitter.walk (P : laws_FnBestSampleJitter.Pure) (a0 : Option Addr) (len0 cap0 : Nat) (z0 : List Int) (w : World) (w0 : (a0 = none ∧ len0 = 0 ∧ cap0 = 0 ∧ z0 = []) ∨ ∃ x, a0 = some x ∧ len0 ≤ cap0 ∧ cap0 ≤ maxLen ∧ z0.length = cap0 ∧ (∀ i, i < z0.length → w.cell? (x.add i) = some (.int .u8 (z0.getD i 0))) ∧ ∀ n ∈ z0, (Lit.int .u8 n).wf = true) (y0 : len0 * 1 ≤ 140737488351232) :
 Calls Try.prog 10 #[.slice a0 len0 cap0] w fun e w' => e = .returned (.bool true) ∧ Below w.heap.size w w' := by
 obtain ⟨l0, rfl, hr0, hm0, hw0, hc0⟩ := ReadsInt.ofRowC w0
 obtain ⟨k, h⟩ := P l0 hm0 y0 hw0
 refine (laws_FnBestSampleJitter.calls k _ _ l0 true w (Kd.C_of_reads (d := (0 : Int)) (h1 := fun _ => rfl) hr0) hc0 h).mono ?_
 rintro e w' ⟨rfl, hd⟩
 exact ⟨rfl, hd⟩

end Go.Proofs.Ytkmklifflghojaa.PAll
