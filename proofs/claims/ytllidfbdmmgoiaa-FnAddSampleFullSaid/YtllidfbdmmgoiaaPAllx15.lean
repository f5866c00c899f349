/- Contracts of the Go functions that this seat's laws reach: each call returns what the plain function beside it tells, and leaves what was there; no condition but that result. Written by a program of this session (pmore.py, over the kit's print). -/
import Derived.Test.YtllidfbdmmgoiaaPAllx0
namespace Go.Proofs.Ytllidfbdmmgoiaa.PAll
open Go.RowKit Go.Proofs.YtllidfbdmmgoiaaW.PrintWords Go.Proofs.YtllidfbdmmgoiaaW.PrintLast Go.Proofs.YtllidfbdmmgoiaaW.PrintMore
attribute [local go_sem] max2_int min2_int max_two min_two max_three min_three max_four min_four   -- for this text's walks alone
set_option linter.unusedVariables false
set_option linter.unusedSimpArgs false

/-! ### impl_Sample_42: function 42 -/
/-- A copy. -/
def impl_Sample_42.f (l0 : List (S33)) : Option (List (S33)) := if l0.length < 5864062014805 then some l0 else none
set_option maxHeartbeats 8000000 in
set_option maxRecDepth 100000 in
theorem impl_Sample_42.calls (A0 : Option Addr) (c0 : Nat) (l0 : List (S33)) (r1 : List (S33)) (w : World) (hr0 : Kd.C k33 w A0 l0.length l0) (hc0 : l0.length ≤ c0) (h : impl_Sample_42.f l0 = some r1) :
    Calls Try.prog 42 #[.slice A0 l0.length c0] w fun e w' => ∃ v0_ : Value, e = .returned v0_ ∧ Kd.R k33 33 w' w.heap.size (fun _ => True) v0_ r1 ∧ Below w.heap.size w w' := by
  have hL : l0.length < 5864062014805 ∧ l0 = r1 := by
    unfold impl_Sample_42.f at h
    by_cases c : l0.length < 5864062014805
    · rw [if_pos c] at h; exact ⟨c, Option.some.inj h⟩
    · rw [if_neg c] at h; cases h
  obtain ⟨hlim, rfl⟩ := hL
  have hu := Try.underlying25
  have hq : ∀ (w : World) (a : Option Addr) (n c n' c' : Nat), (binOp .eql 25 (.slice a n c) (.slice none n' c')).run Try.prog w = .ok (.bool a.isNone) w := fun w a n c n' c' => Lib.run_eql_slice_nil w _ _ a n c n' c' Try.underlying25
  have HR := Aside0.mk hr0
  have HL := Aside0.mk hlim
  clear hr0 hc0 h hlim
  cases A0 with
  | none =>
    have h0 : l0.length = 0 := by
      rcases Nat.eq_zero_or_pos l0.length with h0 | h0
      · exact h0
      · obtain ⟨ad, h, _⟩ := HR.out.2.2 h0
        cases h
    have e0 : l0 = [] := List.eq_nil_of_length_eq_zero h0
    go_enter Try.func42, Try.ntmps42
    go_wp2
    go_ret
    exact ⟨_, rfl, by rw [e0]; exact Kd.R_nil _ _ _ _ _, Below.refl _ w⟩
  | some ad =>
    have HO : Kd.R k33 33 (w.alloc (.cells #[] 33)) w.heap.size (fun _ => True) (.slice (some ⟨w.heap.size, 0, none⟩) 0 0) ([] : List (S33)) := ⟨fun _ _ => trivial, [], World.ownsRow_made w #[] 0 (Nat.le_refl _) (Nat.zero_le _) (by simp), Reps.none _ _⟩
    have HOA := Aside0.mk HO
    have HCA := Aside0.mk (Kd.C_below HR.out (below_alloc (Below.refl _ w) (.cells #[] 33)))
    have HBA := Aside0.mk (below_alloc (Below.refl _ w) (.cells #[] 33))
    clear HO
    go_enter Try.func42, Try.ntmps42
    go_wp2_with (at_builtin; refine Kd.R_append_rows k33 (w0 := w) w.heap.size (by rfl) _ _ 25 33 (.agg #[(.int .i64 0), (.int .i64 0), (.int .i64 0)]) 24 rfl Try.underlying25 info33 rfl (by decide) (by omega) _ [] l0 _ _ _ (fun _ => True) (fun _ => False) rfl rfl HOA.out HCA.out (fun _ _ h => h) (fun _ h => h.elim) (fun _ _ => trivial) HBA.out (by simp) (by have := HL.out; simp only [List.length_nil]; omega) ?_; intro v1 w1 ho hb hg hat)
    go_ret
    exact ⟨v1, rfl, ho, hb⟩


/-! ### impl_Sample_43: function 43 -/
section
variable {P : Program}
/-- clear(s[m:m+q]) behind the first m elements of a row of one's own: these stay. -/
theorem own_clear_run {α : Type} (d : Kd α) {W : World} (base : Nat) (t ty e : TypeId) (z : Value) (ht : P.underlying t = some (.slice e)) (hz : ∀ w, (zeroValue e).run P w = .ok z w) (hzs : z.cells.size = d.sz) (hz1 : ∀ u ∈ z.cells.toList, u.oneCell' = true)
    {g m c q o' c2 : Nat} {xs : List α} {ok : Nat → Prop} (HO : d.R e W base ok (.slice (some ⟨g, 0, none⟩) m c) xs) (hq : m + q ≤ c) (ho : o' = m * d.sz) :
    ∃ w1, (Builtin.clear_ #[t] ty #[.slice (some ⟨g, o', none⟩) q c2]).run P W = .ok (.tuple #[]) w1 ∧ d.R e w1 base ok (.slice (some ⟨g, 0, none⟩) m c) xs ∧ W.grownBy w1 (some g) := by
  subst ho
  rcases Nat.eq_zero_or_pos q with h0 | h0
  · subst h0
    refine ⟨W, ?_, HO, World.grownBy.refl W _⟩
    simp [Builtin.clear_, run_underlying ht]
  · obtain ⟨r, rfl⟩ : ∃ r, q = r + 1 := ⟨q - 1, by omega⟩
    obtain ⟨hn, hnc, _⟩ := Kd.R_reads' HO
    obtain ⟨hok, inner, hown, hr⟩ := HO
    obtain ⟨ho1, ho2⟩ := hown
    rcases ho2 with ⟨hv, _⟩ | ⟨g', cap', cur, hv, hb, hh, hnc', hcm, hcs, htake⟩
    · cases hv
    injection hv with ha _ hc
    injection ha with ha
    injection ha with hg
    subst hg; subst hc
    obtain ⟨zs, hzz⟩ : ∃ zs, zs = (Builtin.zeroCells z.cells (r + 1)).toList := ⟨_, rfl⟩
    have hzl : zs.length = (r + 1) * d.sz := by rw [hzz]; simp [Builtin.zeroCells, hzs]
    have hone : ∀ u ∈ zs, u.oneCell' = true := by
      intro u hu
      rw [hzz] at hu
      simp only [Builtin.zeroCells, Array.toList_map, List.mem_map] at hu
      obtain ⟨i, hi, rfl⟩ := hu
      have hi' : i < (r + 1) * z.cells.size := by simpa using hi
      have hs0 : 0 < z.cells.size := by
        rcases Nat.eq_zero_or_pos z.cells.size with h | h
        · rw [h, Nat.mul_zero] at hi'; omega
        · exact h
      have hlt := Nat.mod_lt i hs0
      rw [getElem!_pos z.cells _ hlt]
      exact hz1 _ (Array.mem_toList_iff.2 (Array.getElem_mem hlt))
    have hle : m * d.sz + (r + 1) * d.sz ≤ c * d.sz := by rw [← Nat.add_mul]; exact Nat.mul_le_mul_right _ hq
    have hfit : m * d.sz + zs.length ≤ cur.size := by omega
    have hst := run_storeCells_cells (P := P) g (m * d.sz) zs 0 W (fun j hj => by rw [cell_of_row W g _ cur e (0, 0) hh]; simp; omega) (fun j _ => blk_frozen hh _) hone
    rw [Nat.add_zero] at hst
    obtain ⟨cur', h3, h4, h5⟩ := setCells_row zs (m * d.sz) W cur hh hfit
    obtain ⟨s1, s2, s3, s4⟩ := setCells_same g zs (m * d.sz) W
    have hfar : ∀ k', k' ≠ g → (W.setCells g (m * d.sz) zs).heap[k']? = W.heap[k']? := fun k' hk' => setCells_far zs _ k' hk'
    have hgo : some g = (Value.slice (some ⟨g, 0, none⟩) m c).ownBlock := by simp [Value.ownBlock]
    refine ⟨_, ?_, ⟨hok, inner, ⟨ho1, .inr ⟨g, c, cur', by rw [← hn], hb, h3, hnc', hcm, by rw [h4, hcs], ?_⟩⟩, hr.imp_ (fun p cs hp => d.M_move (fun k' hk' => hfar k' (fun he => hk'.2 (by rw [he]; exact hgo))) hp)⟩, ⟨s1, s2, s3, by rw [s4]; exact Nat.le_refl _, fun k' _ hk' => hfar k' (fun he => hk' (by rw [he]))⟩⟩
    · simp [Builtin.clear_, run_underlying ht, hz, ← hzz, hst]
    · rw [← htake, h5, ← hn, List.append_assoc, List.take_append_of_le_length (by rw [List.length_take, Array.length_toList]; omega), List.take_take, Nat.min_self]
end
section
variable {P : Program} {ops : Array Oper} {rest : List Oper} {o : Oper} {a : Act} {Q : Exit → Act → World → Prop} {α : Type}
theorem own_clear (d : Kd α) {w0 W : World} (base : Nat) (hgd : o.guard = none) (hN : o.dst = none) (x : Operand) (t e : TypeId) (z : Value) (ho : o.op = .call { callee := .builtin .clear, args := #[x], argTypes := #[t] })
    (ht : P.underlying t = some (.slice e)) (hz : ∀ w, (zeroValue e).run P w = .ok z w) (hzs : z.cells.size = d.sz) (hz1 : ∀ u ∈ z.cells.toList, u.oneCell' = true)
    {g m c q o' c2 : Nat} {xs : List α} {ok : Nat → Prop} (hx : a.eval x = .slice (some ⟨g, o', none⟩) q c2) (HO : d.R e W base ok (.slice (some ⟨g, 0, none⟩) m c) xs) (hq : m + q ≤ c) (ho' : o' = m * d.sz) (HB : Below base w0 W) (hbase : base ≤ W.heap.size)
    (h : ∀ w1, d.R e w1 base ok (.slice (some ⟨g, 0, none⟩) m c) xs → Below base w0 w1 → W.grownBy w1 (some g) → wpList P ops Q rest a w1) : wpList P ops Q (o :: rest) a W := by
  obtain ⟨w1, hr, h1, h2⟩ := own_clear_run (P := P) d base t o.type e z ht hz hzs hz1 HO hq ho' (c2 := c2)
  refine wpList_plain hgd fun K hK => ?_
  unfold Oper.wp execOp
  simp only [ho, resolve, invoke, builtin, Sem.run_bind, Sem.run_pure, Result.andThen_ok, List.map_toArray, List.map_cons, List.map_nil, hx, hr]
  show K (a.put o.dst (.tuple #[])) _
  rw [hN]
  exact hK a _ (h w1 h1 (HB.grown h2 hbase (fun k hk => by injection hk with hk; subst hk; exact Kd.R_base HO _ (by simp [Value.ownBlock]))) h2)
end
/-- The first element is left out (slices.Delete at 0, 1 alone). -/
def impl_Sample_43.f (l0 : List (S33)) (a1 a2 : Int) : Option (List (S33)) := if (0 < l0.length ∧ a1 = 0) ∧ a2 = 1 then some (l0.drop 1) else none
set_option maxHeartbeats 8000000 in
set_option maxRecDepth 100000 in
theorem impl_Sample_43.calls (P0_ : Nat → Prop) (u9000_ : Value) (l0 : List (S33)) (a1 : Int) (a2 : Int) (r : List (S33)) (w0 w : World) (hB : Below w0.heap.size w0 w) (ho0 : Kd.R k33 33 w w0.heap.size P0_ u9000_ l0) (h : impl_Sample_43.f l0 a1 a2 = some r) :
    Calls Try.prog 43 #[u9000_, .int .i64 a1, .int .i64 a2] w fun e w' => ∃ v0_ : Value, e = .returned v0_ ∧ Kd.R k33 33 w' w0.heap.size (fun k_ => (P0_ k_ ∨ w.heap.size ≤ k_)) v0_ r ∧ Below w0.heap.size w0 w' ∧ Kept w w' (fun k_ => P0_ k_) := by
  have hf : ((0 < l0.length ∧ a1 = 0) ∧ a2 = 1) ∧ l0.drop 1 = r := by
    unfold impl_Sample_43.f at h
    by_cases c : (0 < l0.length ∧ a1 = 0) ∧ a2 = 1
    · rw [if_pos c] at h; exact ⟨c, Option.some.inj h⟩
    · rw [if_neg c] at h; cases h
  obtain ⟨⟨⟨hp, rfl⟩, rfl⟩, rfl⟩ := hf
  clear h
  obtain ⟨s0, l, rfl⟩ : ∃ s0 l, l0 = s0 :: l := by
    cases l0 with
    | nil => simp at hp
    | cons s0 l => exact ⟨s0, l, rfl⟩
  clear hp
  show Calls _ _ _ w fun e w' => ∃ v0_ : Value, e = .returned v0_ ∧ Kd.R k33 33 w' w0.heap.size (fun k_ => (P0_ k_ ∨ w.heap.size ≤ k_)) v0_ l ∧ Below w0.heap.size w0 w' ∧ Kept w w' (fun k_ => P0_ k_)
  obtain ⟨g, cap, rfl, hg, hlt, cells, hcells⟩ := Kd.R_form ho0 (by simp)
  obtain ⟨_, hnc, hC⟩ := Kd.R_reads' ho0
  have hn63 : (s0 :: l).length ≤ 9223372036854775807 := hC.2.1
  have hu := Try.underlying25
  have HBA := Aside0.mk (below_drew1 hB)
  have HS := Aside0.mk hB.size
  have HP := Aside0.mk (ho0.1 g (by simp [Value.ownBlock]))
  have HOA := Kd.R_drew ho0
  clear ho0 hB hC hcells hlt hg
  obtain ⟨L, hL⟩ : ∃ L, L = s0 :: l := ⟨_, rfl⟩
  have HL := Aside0.mk hL
  have hle : L.length = l.length + 1 := by rw [hL]; rfl
  rw [← hL] at HOA hnc hn63 ⊢
  clear hL
  rw [hle] at HOA hnc hn63 ⊢
  obtain ⟨n, hn⟩ : ∃ n, n = l.length := ⟨_, rfl⟩
  rw [← hn] at HOA hnc hn63 hle ⊢
  clear hn
  have HOB := Aside0.mk HOA
  have HLE := Aside0.mk hle
  clear HOA hle
  have h0z : (0 : Int) ≤ (n : Int) := by omega
  have h1z : (1 : Int) ≤ (n : Int) + 1 := by omega
  have h2z : (n : Int) ≤ (n : Int) + 1 := by omega
  have h3z : (n : Int) + 1 ≤ (cap : Int) := by omega
  have h4z : ¬ cap = n := by omega
  obtain ⟨A, hA, hA'⟩ : ∃ A : Option Addr, (if cap = 1 then (some (⟨g, 0, none⟩ : Addr)) else some ⟨g, 3, none⟩) = A ∧ Aside0 (A = if cap = 0 + 1 then some ⟨g, 0, none⟩ else (some (⟨g, 0, none⟩ : Addr)).map (·.add ((0 + 1) * 3))) := ⟨_, rfl, ⟨rfl⟩⟩
  go_enter Try.func43, Try.ntmps43
  go_wp2_with fail
  go_region_law (refine Kd.R_delete_step (w0 := w0) k33 w0.heap.size (by rfl) (.tmp 22) (.tmp 25) 25 33 rfl hu rfl (g := g) (c := cap) (n := n + 1) (k := 0) (A := A) (m := n) (c2 := cap - 1) (by simp [Act.eval, Act.put]; done) (by simp [Act.eval, Act.put]; done) hA'.out rfl HOB.out (by omega) HBA.out HS.out ?_; intro w1 ho hb hg; have HO1 : Aside0 (Kd.R k33 33 w1 w0.heap.size P0_ (.slice (some ⟨g, 0, none⟩) n cap) (L.eraseIdx 0)) := ⟨ho⟩; have HB1 := Aside0.mk hb; have HS1 := Aside0.mk (Nat.le_trans HS.out hg.size); have HK1 := Aside0.mk (Kept.of_grown hg (Kept.drew (Kept.refl w P0_)) (fun k e => by injection e with e; subst e; exact .inl HP.out)); clear ho hb hg HOB HBA HS)
  go_wp2_with ((with_reducible refine gate_ (.call { callee := .builtin .clear, args := #[.tmp 31], argTypes := #[25] }) rfl ?_); refine own_clear (w0 := w0) k33 w0.heap.size (by rfl) (by rfl) (.tmp 31) 25 33 (.agg #[.int .i64 0, .int .i64 0, .int .i64 0]) rfl hu Try.zeroValue33 rfl (by intro u hu_; simp [Value.cells] at hu_; subst hu_; rfl) (g := g) (m := n) (c := cap) (q := 1) (o' := n * 3) (c2 := cap - n) rfl HO1.out (by omega) rfl HB1.out HS1.out ?_; intro w2 ho hb hg)
  go_ret
  exact ⟨_, rfl, by have h := HL.out; subst h; exact Kd.R_mono ho (fun _ hk => .inl hk), hb, Kept.of_grown hg HK1.out (fun k e => by injection e with e; subst e; exact .inl HP.out)⟩


end Go.Proofs.Ytllidfbdmmgoiaa.PAll
