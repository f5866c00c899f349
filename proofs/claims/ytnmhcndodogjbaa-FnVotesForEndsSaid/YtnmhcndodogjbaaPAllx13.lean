-- Written by a program of this session (pmore.py, over the kit's print)
import Derived.Test.YtnmhcndodogjbaaPAllx0
import Derived.Test.YtnmhcndodogjbaaPAllx8
namespace Go.Proofs.Ytnmhcndodogjbaa.PAll
open Go.RowKit Go.Proofs.YtnmhcndodogjbaaW.PrintWords Go.Proofs.YtnmhcndodogjbaaW.PrintLast Go.Proofs.YtnmhcndodogjbaaW.PrintMore
attribute [local go_sem] max2_int min2_int max_two min_two max_three min_three max_four min_four   -- for this text's walks alone
set_option linter.unusedVariables false
set_option linter.unusedSimpArgs false

/-! ### spec_DrawVotesFor: function 20 -/
def spec_DrawVotesFor.j0 : Nat → List (S37) → Bool → List Int → Int → Option ((List (S37)) × Int)
  | 0, _, _, _, _ => none
  | k + 1, x5, x18, x307000, x307001 => if x18 = true then ((spec_reader_pick.f k x307000 x307001 (x5.length : Int)).bind fun bt313 => (if 0 ≤ bt313.1 then (if bt313.1 < (x5.length : Int) then ((spec_reader_one.f k x307000 bt313.2 (([(rd_T37 x5 bt313.1).f0, (rd_T37 x5 bt313.1).f1, wrap64 (((rd_T37 x5 bt313.1).f0) - 1), wrap64 (((rd_T37 x5 bt313.1).f1) + 1), wrap64 (Int.tdiv (wrap64 (((rd_T37 x5 bt313.1).f0) + ((rd_T37 x5 bt313.1).f1))) 2)] : List Int))).bind fun bt320 => (some (x5, bt320.1))) else (none)) else (none))) else ((spec_reader_pick.f k x307000 x307001 200).bind fun bt322 => (some (x5, wrap64 (bt322.1 - 100))))
def spec_DrawVotesFor.f (k : Nat) (l0 : List Int) : Option ((List (S37)) × Int) := (spec_newReader.f l0).bind fun bt304 => ((spec_anySpans.f k bt304.1 bt304.2).bind fun bt307 => (if (bt307.1.length : Int) > 0 then ((spec_reader_pick.f k bt304.1 bt307.2 4).bind fun bt311 => (spec_DrawVotesFor.j0 k bt307.1 (decide (bt311.1 > 0)) bt304.1 bt311.2)) else (spec_DrawVotesFor.j0 k bt307.1 false bt304.1 bt307.2)))
theorem spec_DrawVotesFor.mono_l : ∀ k, (∀ y0 y1 y2 y3, LeO (spec_DrawVotesFor.j0 k y0 y1 y2 y3) (spec_DrawVotesFor.j0 (k + 1) y0 y1 y2 y3))
  | 0 => fun _ _ _ _ r h => by simp [spec_DrawVotesFor.j0] at h
  | k + 1 => by
    have ih0 := spec_DrawVotesFor.mono_l k
    · intro y0 y1 y2 y3
      unfold spec_DrawVotesFor.j0
      repeat' first
      | (with_reducible exact ih0 _ _ _ _)
      | (with_reducible exact spec_anySpans.mono _ _ _)
      | (with_reducible exact spec_reader_one.mono _ _ _ _)
      | (with_reducible exact spec_reader_pick.mono _ _ _ _)
      | (with_reducible exact LeO.refl _)
      | (with_reducible exact LeO.none _)
      | (with_reducible refine LeO.ite ?_ ?_)
      | (with_reducible refine LeO.bind ?_ (fun _ => ?_))
      | exact ih0 _ _ _ _
      | exact spec_anySpans.mono _ _ _
      | exact spec_reader_one.mono _ _ _ _
      | exact spec_reader_pick.mono _ _ _ _
      | exact LeO.none _
      | refine LeO.ite ?_ ?_
      | refine LeO.bind ?_ (fun _ => ?_)
theorem spec_DrawVotesFor.mono : ∀ a0 k, LeO (spec_DrawVotesFor.f k a0) (spec_DrawVotesFor.f (k + 1) a0) := by
  intro a0 k
  have ih0 := spec_DrawVotesFor.mono_l k
  unfold spec_DrawVotesFor.f
  repeat' first
      | (with_reducible exact ih0 _ _ _ _)
      | (with_reducible exact spec_anySpans.mono _ _ _)
      | (with_reducible exact spec_reader_one.mono _ _ _ _)
      | (with_reducible exact spec_reader_pick.mono _ _ _ _)
      | (with_reducible exact LeO.refl _)
      | (with_reducible exact LeO.none _)
      | (with_reducible refine LeO.ite ?_ ?_)
      | (with_reducible refine LeO.bind ?_ (fun _ => ?_))
      | exact ih0 _ _ _ _
      | exact spec_anySpans.mono _ _ _
      | exact spec_reader_one.mono _ _ _ _
      | exact spec_reader_pick.mono _ _ _ _
      | exact LeO.none _
      | refine LeO.ite ?_ ?_
      | refine LeO.bind ?_ (fun _ => ?_)
set_option maxHeartbeats 8000000 in
set_option maxRecDepth 100000 in
theorem spec_DrawVotesFor.calls (k : Nat) (A0 : Option Addr) (c0 : Nat) (l0 : List Int) (r1 : List (S37)) (r2 : Int) (w : World) (hr0 : Kd.C (Kd.int .u8) w A0 l0.length l0) (hc0 : l0.length ≤ c0) (h : spec_DrawVotesFor.f k l0 = some (r1, r2)) :
    Calls Try.prog 20 #[.slice A0 l0.length c0] w fun e w' => ∃ v0_ : Value, e = .returned (.tuple #[v0_, .int .i64 r2]) ∧ Kd.R k37 37 w' w.heap.size (fun _ => True) v0_ r1 ∧ Below w.heap.size w w' := by
  have hu37 := Try.underlying37
  have HR0 := Aside0.mk hr0
  have HC0 := Aside0.mk hc0
  clear hr0 hc0
  have HB := Aside0.mk (Below.refl w.heap.size w)
  have H : ((spec_newReader.f l0).bind fun bt304 => ((spec_anySpans.f k bt304.1 bt304.2).bind fun bt307 => (if (bt307.1.length : Int) > 0 then ((spec_reader_pick.f k bt304.1 bt307.2 4).bind fun bt311 => (spec_DrawVotesFor.j0 k bt307.1 (decide (bt311.1 > 0)) bt304.1 bt311.2)) else (spec_DrawVotesFor.j0 k bt307.1 false bt304.1 bt307.2)))) = some (r1, r2) := h
  clear h
  replace H := Option.bind_eq_some_iff.mp H
  obtain ⟨⟨t304, t305⟩, A20, H⟩ := H
  replace H : ((spec_anySpans.f k t304 t305).bind fun bt307 => (if (bt307.1.length : Int) > 0 then ((spec_reader_pick.f k t304 bt307.2 4).bind fun bt311 => (spec_DrawVotesFor.j0 k bt307.1 (decide (bt311.1 > 0)) t304 bt311.2)) else (spec_DrawVotesFor.j0 k bt307.1 false t304 bt307.2))) = some (r1, r2) := H
  have A2 := Aside0.mk A20
  clear A20
  replace H := Option.bind_eq_some_iff.mp H
  obtain ⟨⟨t307, t310⟩, A30, H⟩ := H
  replace H : (if (t307.length : Int) > 0 then ((spec_reader_pick.f k t304 t310 4).bind fun bt311 => (spec_DrawVotesFor.j0 k t307 (decide (bt311.1 > 0)) t304 bt311.2)) else (spec_DrawVotesFor.j0 k t307 false t304 t310)) = some (r1, r2) := H
  have A3 := Aside0.mk A30
  clear A30
  have HC4 := Aside0.mk H
  clear H
  go_enter Try.func20, Try.ntmps20
  go_upto_region 3 with (first | ((with_reducible refine gate_callee (f := 32) rfl ?_); refine goesL_ (some 8) rfl rfl Try.func32 (by kernel_rfl) rfl #[.slice A0 l0.length c0] rfl (by (try simp only [List.map_toArray, List.map_cons, List.map_nil]); first | done | rfl | (simp only [List.length_drop, List.length_take]; rfl)) ?_; (with_reducible refine (spec_newReader.calls _ _ l0 t304 t305 w _ ?side1 ?side2 ?side3 A2.out).mono ?_); (case side1 => repeat (first | (with_reducible first | exact HB.out | apply below_alloc | apply pw_below_drewN | apply below_drew1) | exact HB.out)); (case side2 => exact HR0.out); (case side3 => exact HC0.out); rintro e w5 ⟨g306, rfl, hi, hb, hb2⟩; refine ⟨_, rfl, ?_⟩; have n0_ := Aside0.mk (hb); have n1_ := Aside0.mk (hi); clear HB; have HB := n0_; have HI306 := n1_; clear n0_ n1_; (try clear hb); (try clear hb2); (try clear hk); (try clear hi)) | ((with_reducible refine gate_callee (f := 31) rfl ?_); refine goesL_ (some 10) rfl rfl Try.func31 (by kernel_rfl) rfl #[.pointer (some ⟨g306, 0, none⟩)] rfl (by (try simp only [List.map_toArray, List.map_cons, List.map_nil]); first | done | rfl | (simp only [List.length_drop, List.length_take]; rfl)) ?_; (with_reducible refine (spec_anySpans.calls k g306 t304 t305 t307 t310 w _ ?side1 ?side2 A3.out).mono ?_); (case side1 => repeat (first | (with_reducible first | exact HI306.out | apply IsS55.alloc | apply IsS55.drewN | apply IsS55.drew | apply IsS55.set_1) | exact HI306.out)); (case side2 => repeat (first | (with_reducible first | exact HB.out | apply below_alloc | apply pw_below_drewN | apply below_drew1 | refine below_set ?_ (IsS55.ge HI306.out)) | exact HB.out)); rintro e w6 ⟨v308, rfl, ho0, hi, hb, hk⟩; refine ⟨_, rfl, ?_⟩; have n0_ := Aside0.mk (Kd.R_lower ho0 (below_size (by repeat (first | (with_reducible first | exact HB.out | apply below_alloc | apply pw_below_drewN | apply below_drew1 | refine below_set ?_ (IsS55.ge HI306.out)) | exact HB.out)))); have n1_ := Aside0.mk (hb); have n2_ := Aside0.mk (hi); clear HB; clear HI306; have HO309 := n0_; have HB := n1_; have HI306 := n2_; clear n0_ n1_ n2_; (try clear hb); (try clear hb2); (try clear hk); (try clear hi); (try clear ho0)))
  (try simp only [Act.put, List.setIfInBounds_toArray, List.set_cons_zero, List.set_cons_succ])
  go_cut [18] (fun v18 wc => ∃ (kq : Nat) (x18_3 : Bool) (x307001_3 : Int), v18 = .bool x18_3 ∧ Aside0 (spec_DrawVotesFor.j0 kq t307 x18_3 t304 x307001_3 = some (r1, r2)) ∧ Aside0 (kq ≤ k) ∧ Aside0 (Kd.R k37 37 wc w.heap.size (fun _ => True) v308 t307) ∧ Aside0 (IsS55 w wc g306 t304 x307001_3) ∧ Aside0 (Below w.heap.size w wc))
  case first =>
    have H := HC4.out
    clear HC4
    by_cases c7 : (t307.length : Int) > 0
    · rw [if_pos c7] at H
      have c7b0 : decide (0 < (t307.length : Int)) = true := decide_eq_true c7
      have c7b1 : decide (0 < t307.length) = true := decide_eq_true (by omega)
      clear c7
      (first | rw [c7b0] | (simp only [i64_w, i32_w]; rw [c7b0]) | skip)
      replace H := Option.bind_eq_some_iff.mp H
      obtain ⟨⟨t311, t312⟩, A80, H⟩ := H
      replace H : (spec_DrawVotesFor.j0 k t307 (decide (t311 > 0)) t304 t312) = some (r1, r2) := H
      have A8 := Aside0.mk A80
      clear A80
      have H' := Aside0.mk H
      clear H
      obtain ⟨Ao9, co9, eo9⟩ := Kd.R_slice HO309.out
      subst eo9
      go_wp2_with (first | (go_at_call 35; (with_reducible refine (spec_reader_pick.calls k g306 t304 t310 4 t311 t312 w _ ?side1 ?side2 A8.out).mono ?_); (case side1 => repeat (first | (with_reducible first | exact HI306.out | apply IsS55.alloc | apply IsS55.drewN | apply IsS55.drew | apply IsS55.set_1) | exact HI306.out)); (case side2 => repeat (first | (with_reducible first | exact HB.out | apply below_alloc | apply pw_below_drewN | apply below_drew1 | refine below_set ?_ (IsS55.ge HI306.out)) | exact HB.out)); rintro e w10 ⟨rfl, hi, hb, hk⟩; have n0_ := Aside0.mk (Kd.R_mono (Kd.R_keep (IsS55.apart (show IsS55 w _ g306 t304 t310 from by repeat (first | (with_reducible first | exact HI306.out | apply IsS55.alloc | apply IsS55.drewN | apply IsS55.drew | apply IsS55.set_1) | exact HI306.out)) (by (with_reducible repeat (first | apply Kd.R_alloc | apply Kd.R_drewN | apply Kd.R_drew)); exact HO309.out) (by decide)) hk (fun _ h => h.2)) (fun _ h => h.1)); have n1_ := Aside0.mk (hb); have n2_ := Aside0.mk (hi); clear HO309; clear HB; clear HI306; have HO309 := n0_; have HB := n1_; have HI306 := n2_; clear n0_ n1_ n2_; (try clear hb); (try clear hb2); (try clear hk); (try clear hi)))
      go_meet
      case rel => exact ⟨_, (decide (t311 > 0)), (t312), (by first | rfl | (simp; done) | (simp [*]; done)), H', ⟨by first | omega | exact Nat.le_refl _⟩, ⟨by (with_reducible repeat (first | apply Kd.R_alloc | apply Kd.R_drewN | apply Kd.R_drew)); exact HO309.out⟩, ⟨by repeat (first | (with_reducible first | exact HI306.out | apply IsS55.alloc | apply IsS55.drewN | apply IsS55.drew | apply IsS55.set_1) | exact HI306.out)⟩, ⟨by repeat (first | (with_reducible first | exact HB.out | apply below_alloc | apply pw_below_drewN | apply below_drew1 | refine below_set ?_ (IsS55.ge HI306.out)) | exact HB.out)⟩⟩
    · rw [if_neg c7] at H
      have c7b0 : decide (0 < (t307.length : Int)) = false := decide_eq_false c7
      have c7b1 : decide (0 < t307.length) = false := decide_eq_false (by omega)
      clear c7
      (first | rw [c7b0] | (simp only [i64_w, i32_w]; rw [c7b0]) | skip)
      have H' := Aside0.mk H
      clear H
      obtain ⟨Ao11, co11, eo11⟩ := Kd.R_slice HO309.out
      subst eo11
      go_wp2
      go_meet
      case rel => exact ⟨_, (false), (t310), (by first | rfl | (simp; done) | (simp [*]; done)), H', ⟨by first | omega | exact Nat.le_refl _⟩, ⟨by (with_reducible repeat (first | apply Kd.R_alloc | apply Kd.R_drewN | apply Kd.R_drew)); exact HO309.out⟩, ⟨by repeat (first | (with_reducible first | exact HI306.out | apply IsS55.alloc | apply IsS55.drewN | apply IsS55.drew | apply IsS55.set_1) | exact HI306.out)⟩, ⟨by repeat (first | (with_reducible first | exact HB.out | apply below_alloc | apply pw_below_drewN | apply below_drew1 | refine below_set ?_ (IsS55.ge HI306.out)) | exact HB.out)⟩⟩
  case rest =>
    clear HC4
    try clear c2
    try clear p2
    try clear c3
    try clear c7
    try clear c7b0
    try clear c7b1
    obtain ⟨kq, x18_3, x307001_3, rfl, HA, HJ3, HO_5, HI306, HB⟩ := hcut
    cases kq with
    | zero => exact absurd HA.out (by simp [spec_DrawVotesFor.j0])
    | succ kj3 =>
      have H := HA.out
      clear HA
      simp only [spec_DrawVotesFor.j0] at H
      by_cases c12 : x18_3 = true
      · subst c12
        have H1 : ((spec_reader_pick.f kj3 t304 x307001_3 (t307.length : Int)).bind fun bt313 => (if 0 ≤ bt313.1 then (if bt313.1 < (t307.length : Int) then ((spec_reader_one.f kj3 t304 bt313.2 (([(rd_T37 t307 bt313.1).f0, (rd_T37 t307 bt313.1).f1, wrap64 (((rd_T37 t307 bt313.1).f0) - 1), wrap64 (((rd_T37 t307 bt313.1).f1) + 1), wrap64 (Int.tdiv (wrap64 (((rd_T37 t307 bt313.1).f0) + ((rd_T37 t307 bt313.1).f1))) 2)] : List Int))).bind fun bt320 => (some (t307, bt320.1))) else (none)) else (none))) = some (r1, r2) := by rw [if_pos rfl] at H; exact H
        clear H
        have H := H1
        clear H1
        replace H := Option.bind_eq_some_iff.mp H
        obtain ⟨⟨t313, t314⟩, A130, H⟩ := H
        replace H : (if 0 ≤ t313 then (if t313 < (t307.length : Int) then ((spec_reader_one.f kj3 t304 t314 (([(rd_T37 t307 t313).f0, (rd_T37 t307 t313).f1, wrap64 (((rd_T37 t307 t313).f0) - 1), wrap64 (((rd_T37 t307 t313).f1) + 1), wrap64 (Int.tdiv (wrap64 (((rd_T37 t307 t313).f0) + ((rd_T37 t307 t313).f1))) 2)] : List Int))).bind fun bt320 => (some (t307, bt320.1))) else (none)) else (none)) = some (r1, r2) := H
        have A13 := Aside0.mk A130
        clear A130
        by_cases c14 : 0 ≤ t313
        · rw [if_pos c14] at H
          have c14b0 : decide (0 ≤ t313) = true := decide_eq_true c14
          clear c14
          by_cases c15 : t313 < (t307.length : Int)
          · rw [if_pos c15] at H
            have c15b0 : decide (t313 < (t307.length : Int)) = true := decide_eq_true c15
            clear c15
            obtain ⟨y317, hy317⟩ : ∃ y_ : List Int, y_ = (([(rd_T37 t307 t313).f0, (rd_T37 t307 t313).f1, wrap64 (((rd_T37 t307 t313).f0) - 1), wrap64 (((rd_T37 t307 t313).f1) + 1), wrap64 (Int.tdiv (wrap64 (((rd_T37 t307 t313).f0) + ((rd_T37 t307 t313).f1))) 2)] : List Int)) := ⟨_, rfl⟩
            replace H : ((spec_reader_one.f kj3 t304 t314 y317).bind fun bt320 => (some (t307, bt320.1))) = some (r1, r2) := by first | (rw [hy317]; with_reducible exact H) | (have H2_ := (Option.bind_some _ _).symm.trans H; rw [hy317]; with_reducible exact H2_) | (have H2_ := (Option.bind_some _ _).symm.trans H; with_reducible exact H2_) | with_reducible exact H | (rw [hy317]; exact H) | exact H
            have Ny317 := Aside0.mk hy317
            clear hy317
            replace H := Option.bind_eq_some_iff.mp H
            obtain ⟨⟨t320, t321⟩, A160, H⟩ := H
            replace H : (some (t307, t320)) = some (r1, r2) := H
            have A16 := Aside0.mk A160
            clear A160
            simp only [Option.some.injEq, Prod.mk.injEq] at H
            obtain ⟨rfl, rfl⟩ := H
            obtain ⟨Ao17, co17, eo17⟩ := Kd.R_slice HO_5.out
            subst eo17
            go_wp2_with (first | ((with_reducible refine gate_callee (f := 35) rfl ?_); refine goesL_ (some 23) rfl rfl Try.func35 (by kernel_rfl) rfl #[.pointer (some ⟨g306, 0, none⟩), .int .i64 (t307.length : Int)] rfl (by (try simp only [List.map_toArray, List.map_cons, List.map_nil]); first | done | rfl | (simp only [List.length_drop, List.length_take]; rfl)) ?_; (with_reducible refine (spec_reader_pick.calls kj3 g306 t304 x307001_3 (t307.length : Int) t313 t314 w _ ?side1 ?side2 A13.out).mono ?_); (case side1 => repeat (first | (with_reducible first | exact HI306.out | apply IsS55.alloc | apply IsS55.drewN | apply IsS55.drew | apply IsS55.set_1) | exact HI306.out)); (case side2 => repeat (first | (with_reducible first | exact HB.out | apply below_alloc | apply pw_below_drewN | apply below_drew1 | refine below_set ?_ (IsS55.ge HI306.out)) | exact HB.out)); rintro e w18 ⟨rfl, hi, hb, hk⟩; refine ⟨_, rfl, ?_⟩; have n0_ := Aside0.mk (Kd.R_mono (Kd.R_keep (IsS55.apart (show IsS55 w _ g306 t304 x307001_3 from by repeat (first | (with_reducible first | exact HI306.out | apply IsS55.alloc | apply IsS55.drewN | apply IsS55.drew | apply IsS55.set_1) | exact HI306.out)) (by (with_reducible repeat (first | apply Kd.R_alloc | apply Kd.R_drewN | apply Kd.R_drew)); exact HO_5.out) (by decide)) hk (fun _ h => h.2)) (fun _ h => h.1)); have n1_ := Aside0.mk (hb); have n2_ := Aside0.mk (hi); clear HO_5; clear HB; clear HI306; have HO_5 := n0_; have HB := n1_; have HI306 := n2_; clear n0_ n1_ n2_; (try clear hb); (try clear hb2); (try clear hk); (try clear hi); have p315 : 0 ≤ (t313 : Int) := of_decide_eq_true (by first | (with_reducible assumption) | assumption); have q315 : t313 < (t307.length : Int) := of_decide_eq_true (by first | (with_reducible assumption) | assumption); obtain ⟨ad315, e315, hx315_0, hx315_1⟩ := at_T37 (Kd.R_reads' HO_5.out).2.2 t313 p315 q315; cases e315; replace p315 := eq_true p315; replace q315 := eq_true q315) | ((with_reducible refine gate_dst (N := 6) rfl ?_); refine box_event ?hg (N := 6) ?hd (cs := #[.int .i64 0, .int .i64 0]) (t := 37) ?hr ?_; (case hd => rfl); (case hg => rfl); (case hr => first | (go_simp; done) | (go_simp; rfl)); intro gb316 hg w19 hbox hb; have n0_ := Aside0.mk (Kd.R_below (Kd.R_elderB (by (with_reducible repeat (first | apply Kd.R_alloc | apply Kd.R_drewN | apply Kd.R_drew)); exact HO_5.out) gb316 (Nat.le_of_eq hg.symm)) hb); have n1_ := Aside0.mk (IsS55.below (by repeat (first | (with_reducible first | exact HI306.out | apply IsS55.alloc | apply IsS55.drewN | apply IsS55.drew | apply IsS55.set_1) | exact HI306.out)) hb); have n2_ := Aside0.mk (below_step (by repeat (first | (with_reducible first | exact HB.out | apply below_alloc | apply pw_below_drewN | apply below_drew1 | refine below_set ?_ (IsS55.ge HI306.out)) | exact HB.out)) hb); have n3_ := Aside0.mk (hbox); have n4_ := Aside0.mk ((by rw [hg]; exact (below_size (by repeat (first | (with_reducible first | exact HB.out | apply below_alloc | apply pw_below_drewN | apply below_drew1 | refine below_set ?_ (IsS55.ge HI306.out)) | exact HB.out))) : w.heap.size ≤ gb316)); have n5_ := Aside0.mk ((by rw [hg]; exact (below_size (by repeat (first | (with_reducible first | exact HB.out | apply below_alloc | apply pw_below_drewN | apply below_drew1 | refine below_set ?_ (IsS55.ge HI306.out)) | exact HB.out))) : w.heap.size ≤ gb316)); have n6_ := Aside0.mk ((by rw [hg]; exact Nat.ne_of_lt (IsS55.lt (show IsS55 w _ g306 t304 t314 from by repeat (first | (with_reducible first | exact HI306.out | apply IsS55.alloc | apply IsS55.drewN | apply IsS55.drew | apply IsS55.set_1) | exact HI306.out))) : g306 ≠ gb316)); have n7_ := Aside0.mk ((by rw [hg]; exact Nat.ne_of_gt (IsS55.lt (show IsS55 w _ g306 t304 t314 from by repeat (first | (with_reducible first | exact HI306.out | apply IsS55.alloc | apply IsS55.drewN | apply IsS55.drew | apply IsS55.set_1) | exact HI306.out))) : gb316 ≠ g306)); clear HO_5; clear HI306; clear HB; have HO_5 := n0_; have HI306 := n1_; have HB := n2_; have BK316 := n3_; have GW316 := n4_; have GE316 := n5_; have NB306_316 := n6_; have NB316_306 := n7_; clear n0_ n1_ n2_ n3_ n4_ n5_ n6_ n7_; clear hb hbox hg; have hnb20 := NB316_306.out; have hnc20 := NB306_316.out; have hcz21_0 : w19.cell? ⟨gb316, 0, none⟩ = some (.int .i64 0) := (blk_cell BK316.out 0).trans rfl; have hcz21_1 : w19.cell? ⟨gb316, 1, none⟩ = some (.int .i64 0) := (blk_cell BK316.out 1).trans rfl; have hfz21_0 := blk_frozen BK316.out 0; have hfz21_1 := blk_frozen BK316.out 1) | ((with_reducible refine gate_dst (N := 44) rfl ?_); refine Kd.R_lit (Kd.int .i64) _ 3 ?hg (N := 44) ?hd (xs := ([(rd_T37 t307 t313).f0, (rd_T37 t307 t313).f1, wrap64 (((rd_T37 t307 t313).f0) - 1), wrap64 (((rd_T37 t307 t313).f1) + 1), wrap64 (Int.tdiv (wrap64 (((rd_T37 t307 t313).f0) + ((rd_T37 t307 t313).f1))) 2)] : List Int)) (inner := [.int .i64 ((rd_T37 t307 t313).f0), .int .i64 ((rd_T37 t307 t313).f1), .int .i64 (wrap64 (((rd_T37 t307 t313).f0) - 1)), .int .i64 (wrap64 (((rd_T37 t307 t313).f1) + 1)), .int .i64 (wrap64 (Int.tdiv (wrap64 (((rd_T37 t307 t313).f0) + ((rd_T37 t307 t313).f1))) 2))]) (ok := fun _ => True) (okp := fun _ => True) ?hr ?hp (fun _ hk => hk) trivial (Below.refl _ _) (Nat.le_refl _) (by simp) ?_; (case hd => rfl); (case hg => rfl); (case hr => first | (go_simp; done) | (go_simp; rfl)); (case hp => exact (Reps.one (show Kd.M (Kd.int .i64) _ _ _ ((rd_T37 t307 t313).f0) [.int .i64 ((rd_T37 t307 t313).f0)] from rfl) (Reps.one (show Kd.M (Kd.int .i64) _ _ _ ((rd_T37 t307 t313).f1) [.int .i64 ((rd_T37 t307 t313).f1)] from rfl) (Reps.one (show Kd.M (Kd.int .i64) _ _ _ (wrap64 (((rd_T37 t307 t313).f0) - 1)) [.int .i64 (wrap64 (((rd_T37 t307 t313).f0) - 1))] from rfl) (Reps.one (show Kd.M (Kd.int .i64) _ _ _ (wrap64 (((rd_T37 t307 t313).f1) + 1)) [.int .i64 (wrap64 (((rd_T37 t307 t313).f1) + 1))] from rfl) (Reps.one (show Kd.M (Kd.int .i64) _ _ _ (wrap64 (Int.tdiv (wrap64 (((rd_T37 t307 t313).f0) + ((rd_T37 t307 t313).f1))) 2)) [.int .i64 (wrap64 (Int.tdiv (wrap64 (((rd_T37 t307 t313).f0) + ((rd_T37 t307 t313).f1))) 2))] from rfl) (Reps.none _ _))))))); intro v318 w22 ho23 hb hg_ hnew_; clear hg_ hnew_; (first | rw [← Ny317.out] at ho23 | (simp only [Int.reduceToNat] at ho23; rw [← Ny317.out] at ho23)); have n0_ := Aside0.mk (Kd.R_below (by (with_reducible repeat (first | apply Kd.R_alloc | apply Kd.R_drewN | apply Kd.R_drew)); exact (Kd.R_mono (Kd.R_far (p := ⟨gb316, 1, none⟩) (Kd.R_far (p := ⟨gb316, 0, none⟩) (Kd.R_mono HO_5.out (fun k_ hk => (⟨hk, hk.2⟩ : _ ∧ k_ ≠ gb316))) (fun _ hk => hk.2) (.int .i64 ((rd_T37 t307 t313).f0))) (fun _ hk => hk.2) (.int .i64 ((rd_T37 t307 t313).f1))) (fun _ h_ => h_.1))) hb); have n1_ := Aside0.mk (Kd.R_lower ho23 (below_size (by repeat (first | (with_reducible first | exact HB.out | apply below_alloc | apply pw_below_drewN | apply below_drew1 | refine below_set ?_ (IsS55.ge HI306.out) | refine below_set ?_ GE316.out) | exact HB.out)))); have n2_ := Aside0.mk (IsS55.below (show IsS55 w ((w19.setCell ⟨gb316, 0, none⟩ (.int .i64 ((rd_T37 t307 t313).f0))).setCell ⟨gb316, 1, none⟩ (.int .i64 ((rd_T37 t307 t313).f1))) g306 t304 t314 from by repeat (first | (with_reducible first | exact HI306.out | apply IsS55.alloc | apply IsS55.drewN | apply IsS55.drew | apply IsS55.set_1 | refine IsS55.far ?_ NB306_316.out _) | exact HI306.out)) hb); have n3_ := Aside0.mk (blk_below (g := gb316) (o := .cells #[.int .i64 ((rd_T37 t307 t313).f0), .int .i64 ((rd_T37 t307 t313).f1)] 37 (0, 0)) (by (with_reducible repeat (first | refine blk_drewN ?_ _ | refine blk_drew ?_ | refine blk_alloc ?_ _)); refine blk_put (cs := #[.int .i64 ((rd_T37 t307 t313).f0), .int .i64 0]) ?_ 1 _ rfl; (with_reducible repeat (first | refine blk_drewN ?_ _ | refine blk_drew ?_ | refine blk_alloc ?_ _)); refine blk_put (cs := #[.int .i64 0, .int .i64 0]) ?_ 0 _ rfl; (with_reducible repeat (first | refine blk_drewN ?_ _ | refine blk_drew ?_ | refine blk_alloc ?_ _)); exact BK316.out) hb); have n4_ := Aside0.mk (below_step (by repeat (first | (with_reducible first | exact HB.out | apply below_alloc | apply pw_below_drewN | apply below_drew1 | refine below_set ?_ (IsS55.ge HI306.out) | refine below_set ?_ GE316.out) | exact HB.out)) hb); clear HO_5; clear HI306; clear BK316; clear HB; have HO_5 := n0_; have HO319 := n1_; have HI306 := n2_; have BK316 := n3_; have HB := n4_; clear n0_ n1_ n2_ n3_ n4_; clear hb ho23; obtain ⟨Ao24, co24, eo24⟩ := Kd.R_slice HO319.out; subst eo24) | ((with_reducible refine gate_callee (f := 36) rfl ?_); refine goesL_ (some 45) rfl rfl Try.func36 (by kernel_rfl) rfl #[.pointer (some ⟨g306, 0, none⟩), .slice Ao24 y317.length co24] rfl (by (try simp only [List.map_toArray, List.map_cons, List.map_nil]); first | done | rfl | (simp only [List.length_drop, List.length_take]; rfl)) ?_; (with_reducible refine (spec_reader_one.calls kj3 g306 t304 t314 _ _ y317 t320 t321 w _ ?side1 ?side2 ?side3 ?side4 ?side5 A16.out).mono ?_); (case side1 => repeat (first | (with_reducible first | exact HI306.out | apply IsS55.alloc | apply IsS55.drewN | apply IsS55.drew | apply IsS55.set_1 | refine IsS55.far ?_ NB306_316.out _) | exact HI306.out)); (case side2 => repeat (first | (with_reducible first | exact HB.out | apply below_alloc | apply pw_below_drewN | apply below_drew1 | refine below_set ?_ (IsS55.ge HI306.out) | refine below_set ?_ GE316.out) | exact HB.out)); (case side3 => repeat (first | exact (Kd.R_reads' HO319.out).2.2 | (with_reducible refine Kd.C_alloc ?_ _) | (with_reducible refine Kd.C_drewN ?_ _) | (with_reducible refine Kd.C_drew ?_))); (case side4 => exact (Kd.R_reads' HO319.out).2.1); (case side5 => exact far_slice (IsS55.own_ne HI306.out HO319.out (by decide))); rintro e w25 ⟨rfl, hi, hb, hk⟩; refine ⟨_, rfl, ?_⟩; have n0_ := Aside0.mk (Kd.R_mono (Kd.R_keep (IsS55.apart (show IsS55 w _ g306 t304 t314 from by repeat (first | (with_reducible first | exact HI306.out | apply IsS55.alloc | apply IsS55.drewN | apply IsS55.drew | apply IsS55.set_1 | refine IsS55.far ?_ NB306_316.out _) | exact HI306.out)) (by (with_reducible repeat (first | apply Kd.R_alloc | apply Kd.R_drewN | apply Kd.R_drew)); exact HO_5.out) (by decide)) hk (fun _ h => h.2)) (fun _ h => h.1)); have n1_ := Aside0.mk (KeepBut.blk hk (g' := gb316) (o := .cells #[.int .i64 ((rd_T37 t307 t313).f0), .int .i64 ((rd_T37 t307 t313).f1)] 37 (0, 0)) (by (with_reducible repeat (first | refine blk_drewN ?_ _ | refine blk_drew ?_ | refine blk_alloc ?_ _)); exact BK316.out) NB316_306.out (by simp)); have n2_ := Aside0.mk (Kd.R_mono (Kd.R_keep (IsS55.apart (show IsS55 w _ g306 t304 t314 from by repeat (first | (with_reducible first | exact HI306.out | apply IsS55.alloc | apply IsS55.drewN | apply IsS55.drew | apply IsS55.set_1 | refine IsS55.far ?_ NB306_316.out _) | exact HI306.out)) (by (with_reducible repeat (first | apply Kd.R_alloc | apply Kd.R_drewN | apply Kd.R_drew)); exact HO319.out) (by decide)) hk (fun _ h => h.2)) (fun _ h => h.1)); have n3_ := Aside0.mk (hb); have n4_ := Aside0.mk (hi); clear HO_5; clear BK316; clear HO319; clear HB; clear HI306; have HO_5 := n0_; have BK316 := n1_; have HO319 := n2_; have HB := n3_; have HI306 := n4_; clear n0_ n1_ n2_ n3_ n4_; (try clear hb); (try clear hb2); (try clear hk); (try clear hi)))
            go_ret2
            exact ⟨_, by first | rfl | (simp [errW_none, errW_some] <;> rfl) | (simp [*, errW_none, errW_some] <;> rfl), by (with_reducible repeat (first | apply Kd.R_alloc | apply Kd.R_drewN | apply Kd.R_drew)); exact Kd.R_mono HO_5.out (fun _ hk => trivial), by repeat (first | (with_reducible first | exact HB.out | apply below_alloc | apply pw_below_drewN | apply below_drew1 | refine below_set ?_ (IsS55.ge HI306.out) | refine below_set ?_ GE316.out) | exact HB.out)⟩
          · rw [if_neg c15] at H
            exact absurd H (by simp)
        · rw [if_neg c14] at H
          exact absurd H (by simp)
      · replace c12 := Bool.eq_false_iff.mpr c12
        subst c12
        have H1 : ((spec_reader_pick.f kj3 t304 x307001_3 200).bind fun bt322 => (some (t307, wrap64 (bt322.1 - 100)))) = some (r1, r2) := by rw [if_neg (show ¬ (false = true) by decide)] at H; exact H
        clear H
        have H := H1
        clear H1
        replace H := Option.bind_eq_some_iff.mp H
        obtain ⟨⟨t322, t323⟩, A260, H⟩ := H
        replace H : (some (t307, wrap64 (t322 - 100))) = some (r1, r2) := H
        have A26 := Aside0.mk A260
        clear A260
        simp only [Option.some.injEq, Prod.mk.injEq] at H
        obtain ⟨rfl, rfl⟩ := H
        go_wp2_with (first | ((with_reducible refine gate_callee (f := 35) rfl ?_); refine goesL_ (some 48) rfl rfl Try.func35 (by kernel_rfl) rfl #[.pointer (some ⟨g306, 0, none⟩), .int .i64 200] rfl (by (try simp only [List.map_toArray, List.map_cons, List.map_nil]); first | done | rfl | (simp only [List.length_drop, List.length_take]; rfl)) ?_; (with_reducible refine (spec_reader_pick.calls kj3 g306 t304 x307001_3 200 t322 t323 w _ ?side1 ?side2 A26.out).mono ?_); (case side1 => repeat (first | (with_reducible first | exact HI306.out | apply IsS55.alloc | apply IsS55.drewN | apply IsS55.drew | apply IsS55.set_1) | exact HI306.out)); (case side2 => repeat (first | (with_reducible first | exact HB.out | apply below_alloc | apply pw_below_drewN | apply below_drew1 | refine below_set ?_ (IsS55.ge HI306.out)) | exact HB.out)); rintro e w27 ⟨rfl, hi, hb, hk⟩; refine ⟨_, rfl, ?_⟩; have n0_ := Aside0.mk (Kd.R_mono (Kd.R_keep (IsS55.apart (show IsS55 w _ g306 t304 x307001_3 from by repeat (first | (with_reducible first | exact HI306.out | apply IsS55.alloc | apply IsS55.drewN | apply IsS55.drew | apply IsS55.set_1) | exact HI306.out)) (by (with_reducible repeat (first | apply Kd.R_alloc | apply Kd.R_drewN | apply Kd.R_drew)); exact HO_5.out) (by decide)) hk (fun _ h => h.2)) (fun _ h => h.1)); have n1_ := Aside0.mk (hb); have n2_ := Aside0.mk (hi); clear HO_5; clear HB; clear HI306; have HO_5 := n0_; have HB := n1_; have HI306 := n2_; clear n0_ n1_ n2_; (try clear hb); (try clear hb2); (try clear hk); (try clear hi)))
        go_ret2
        exact ⟨_, by first | rfl | (simp [errW_none, errW_some] <;> rfl) | (simp [*, errW_none, errW_some] <;> rfl), by (with_reducible repeat (first | apply Kd.R_alloc | apply Kd.R_drewN | apply Kd.R_drew)); exact HO_5.out, by repeat (first | (with_reducible first | exact HB.out | apply below_alloc | apply pw_below_drewN | apply below_drew1 | refine below_set ?_ (IsS55.ge HI306.out)) | exact HB.out)⟩

end Go.Proofs.Ytnmhcndodogjbaa.PAll
