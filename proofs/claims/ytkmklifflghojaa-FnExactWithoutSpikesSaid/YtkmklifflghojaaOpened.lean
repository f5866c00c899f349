/- Arguments that are structs of whole numbers, or slices of such, read cell by cell; no condition beyond each statement's own. -/
import Derived.Deep.Slices
import Derived.Deep.Fields
import Derived.ChangeSame
import Derived.Test.YtkmklifflghojaaWMore
/-! Arguments that are structs of whole numbers, or slices of such structs, laid open to their cells. -/
namespace Go.Proofs.Ytkmklifflghojaa.Opened
open Go.ChangeShapes Go.WideShapes Go.Deep Go.RowKit Go.Proofs.YtkmklifflghojaaW.PrintWords
section
variable {H : Type} {enc : TypeId × Value → H} {P : Program} {w : World} {base : Nat} {spare : Nat → Bool} {held : Bool}

theorem struct_cells {fs : Array Field} {t : TypeId} {n : Nat} {cs : List Value} {x : DataW H × List MemPlace} (hs : P.underlying t = some (.struct fs)) (hone : oneCellFields P fs = true) (hC : P.cellsOf t = fs.size)
    (hint : ∀ (j : Nat) (f : Field), fs[j]? = some f → P.underlying f.type = some (.int .i64)) (h : DataW.trod enc P w base spare held n t cs = some x) :
    cs.length = fs.size ∧ ∀ j, j < fs.size → ∃ z, cs[j]? = some (.int .i64 z) ∧ (Lit.int .i64 z).wf = true := by
  obtain ⟨xs, n', _, _, hlen, hxl, hf⟩ := DataW.trod_struct hs h
  have hl : cs.length = fs.size := hlen.trans hC
  refine ⟨hl, fun j hj => ?_⟩
  have hfj : fs[j]? = some fs[j] := Array.getElem?_eq_getElem hj
  obtain ⟨ho, hk⟩ := hone_of hone j _ hfj
  have h1 := hf j _ hfj
  rw [ho, hk, take1_drop cs j (.int .i64 0) (by omega), List.getElem?_eq_getElem (by omega)] at h1
  obtain ⟨z, hz, _, hw⟩ := DataW.trod_int (hint j _ hfj) h1
  refine ⟨z, ?_, hw⟩
  have hz' : cs.getD j (.int .i64 0) = .int .i64 z := by simpa using hz
  rw [List.getD_eq_getElem?_getD, List.getElem?_eq_getElem (by omega)] at hz'
  rw [List.getElem?_eq_getElem (by omega)]
  exact congrArg some hz'

/-- What is known of a slice of structs of k whole numbers. -/
def RowCells (w : World) (k : Nat) (a : Option Addr) (len cap : Nat) : Prop :=
  (a = none ∧ len = 0 ∧ cap = 0) ∨ ∃ ad, a = some ad ∧ len ≤ cap ∧ cap ≤ maxLen ∧ ∀ i, i < len → ∀ j, j < k → ∃ z, w.cell? (ad.add (i * k + j)) = some (.int .i64 z) ∧ (Lit.int .i64 z).wf = true

theorem slice_cells {t e : TypeId} {fs : Array Field} {a : Option Addr} {len cap : Nat} {d : DataW H} {ps : List MemPlace} (ht : P.underlying t = some (.slice e)) (he : P.underlying e = some (.struct fs)) (hone : oneCellFields P fs = true) (hC : P.cellsOf e = fs.size)
    (hint : ∀ (j : Nat) (f : Field), fs[j]? = some f → P.underlying f.type = some (.int .i64)) (h : DataW.Trod enc P w base spare held t (.slice a len cap) d ps) :
    RowCells w fs.size a len cap := by
  obtain ⟨fuel, hf⟩ := h
  rcases open_slice ht hf with ⟨hcs, _⟩ | ⟨ad, l, c, m, n, D, Pl, hcs, _, hl, hm, hmm, _, hx⟩
  · simp [Value.cells] at hcs
    exact .inl hcs
  · simp [Value.cells] at hcs
    obtain ⟨rfl, rfl, rfl⟩ := hcs
    refine .inr ⟨ad, rfl, hl, hm, fun i hi j hj => ?_⟩
    obtain ⟨cs', h1, h2⟩ := hx i (by rw [hmm]; split <;> omega)
    obtain ⟨_, _, hat⟩ := World.cells?_some h1
    obtain ⟨_, hz⟩ := struct_cells he hone hC hint h2
    obtain ⟨z, hz, hw⟩ := hz j hj
    refine ⟨z, ?_, hw⟩
    rw [← hz, ← hat j (by rw [hC]; exact hj), hC, Go.Deep.add_add]
theorem agg2 {r : Reach} {b0 : Nat} {t : TypeId} {fs : Array Field} {v : Value} {d : DataW H} {p : List MemPlace} (hs : P.underlying t = some (.struct fs)) (hfs : fs.size = 2) (hone : oneCellFields P fs = true) (hC : P.cellsOf t = fs.size)
    (hint : ∀ (j : Nat) (f : Field), fs[j]? = some f → P.underlying f.type = some (.int .i64)) (hv : Value.okWide P w r b0 t v) (h : DataW.Trod enc P w base spare held t v d p) :
    ∃ x y, v = .agg #[.int .i64 x, .int .i64 y] ∧ (Lit.int .i64 x).wf = true ∧ (Lit.int .i64 y).wf = true := by
  obtain ⟨⟨l⟩, rfl, _⟩ := okWide_struct hs hv
  obtain ⟨fuel, hf⟩ := h
  have hf' : DataW.trod enc P w base spare held fuel t l = some (d, p) := by simpa [Value.cells] using hf
  obtain ⟨hl, hz⟩ := struct_cells hs hone hC hint hf'
  obtain ⟨x, hx, wx⟩ := hz 0 (by omega)
  obtain ⟨y, hy, wy⟩ := hz 1 (by omega)
  rw [hfs] at hl
  match l, hl with
  | [c0, c1], _ =>
    simp at hx hy
    subst hx hy
    exact ⟨x, y, rfl, wx, wy⟩

theorem agg3 {r : Reach} {b0 : Nat} {t : TypeId} {fs : Array Field} {v : Value} {d : DataW H} {p : List MemPlace} (hs : P.underlying t = some (.struct fs)) (hfs : fs.size = 3) (hone : oneCellFields P fs = true) (hC : P.cellsOf t = fs.size)
    (hint : ∀ (j : Nat) (f : Field), fs[j]? = some f → P.underlying f.type = some (.int .i64)) (hv : Value.okWide P w r b0 t v) (h : DataW.Trod enc P w base spare held t v d p) :
    ∃ x y z, v = .agg #[.int .i64 x, .int .i64 y, .int .i64 z] ∧ (Lit.int .i64 x).wf = true ∧ (Lit.int .i64 y).wf = true ∧ (Lit.int .i64 z).wf = true := by
  obtain ⟨⟨l⟩, rfl, _⟩ := okWide_struct hs hv
  obtain ⟨fuel, hf⟩ := h
  have hf' : DataW.trod enc P w base spare held fuel t l = some (d, p) := by simpa [Value.cells] using hf
  obtain ⟨hl, hz⟩ := struct_cells hs hone hC hint hf'
  obtain ⟨x, hx, wx⟩ := hz 0 (by omega)
  obtain ⟨y, hy, wy⟩ := hz 1 (by omega)
  obtain ⟨z, hz', wz⟩ := hz 2 (by omega)
  rw [hfs] at hl
  match l, hl with
  | [c0, c1, c2], _ =>
    simp at hx hy hz'
    subst hx hy hz'
    exact ⟨x, y, z, rfl, wx, wy, wz⟩
end

theorem choose_list {α : Type} {p : Nat → α → Prop} : ∀ {n : Nat}, (∀ i, i < n → ∃ x, p i x) → ∃ l : List α, l.length = n ∧ ∀ i x, l[i]? = some x → p i x
  | 0, _ => ⟨[], rfl, fun i x h => by simp at h⟩
  | n + 1, h => by
    obtain ⟨l, hl, hp⟩ := choose_list (n := n) (fun i hi => h i (by omega))
    obtain ⟨y, hy⟩ := h n (by omega)
    refine ⟨l ++ [y], by simp [hl], fun i x hx => ?_⟩
    by_cases hi : i < l.length
    · rw [List.getElem?_append_left hi] at hx
      exact hp i x hx
    · rw [List.getElem?_append_right (by omega)] at hx
      have hi0 : i - l.length = 0 := by
        cases hq : i - l.length with
        | zero => rfl
        | succ q => rw [hq] at hx; simp at hx
      rw [hi0] at hx
      have hxy : y = x := by simpa using hx
      have hin : i = n := by omega
      rw [hin, ← hxy]
      exact hy

theorem rows2 {S : Type} {w : World} (mk : Int → Int → S) (d : Kd S) (hsz : d.sz = 2) (hK : ∀ x y, d.K w (mk x y) [.int .i64 x, .int .i64 y]) {a : Option Addr} {len cap : Nat} (h : RowCells w 2 a len cap) :
    ∃ l : List S, len = l.length ∧ d.C w a l.length l ∧ l.length ≤ cap ∧ l.length ≤ maxLen ∧ ∀ s ∈ l, ∃ x y, s = mk x y ∧ (Lit.int .i64 x).wf = true ∧ (Lit.int .i64 y).wf = true := by
  rcases h with ⟨rfl, rfl, rfl⟩ | ⟨ad, rfl, hl, hm, hc⟩
  · exact ⟨[], rfl, Kd.C_nil d w, Nat.le_refl _, Nat.zero_le _, fun s hs => by simp at hs⟩
  · obtain ⟨l, hll, hp⟩ := choose_list (α := S) (n := len) (p := fun i s => ∃ x y, s = mk x y ∧ (Lit.int .i64 x).wf = true ∧ (Lit.int .i64 y).wf = true ∧ w.cell? (ad.add (i * 2 + 0)) = some (.int .i64 x) ∧ w.cell? (ad.add (i * 2 + 1)) = some (.int .i64 y)) (fun i hi => by
      obtain ⟨x, hx, wx⟩ := hc i hi 0 (by omega)
      obtain ⟨y, hy, wy⟩ := hc i hi 1 (by omega)
      exact ⟨mk x y, x, y, rfl, wx, wy, hx, hy⟩)
    subst hll
    refine ⟨l, rfl, ⟨rfl, ?_, fun _ => ⟨ad, rfl, fun j p hj => ?_⟩⟩, hl, Nat.le_trans hl hm, fun s hs => ?_⟩
    · unfold maxLen at hm; omega
    · obtain ⟨x, y, rfl, _, _, hx, hy⟩ := hp j p hj
      refine ⟨[.int .i64 x, .int .i64 y], by rw [hsz]; rfl, hK x y, fun i u hu => ?_⟩
      rw [hsz]
      match i, hu with
      | 0, hu => rw [hx]; simpa using hu
      | 1, hu => rw [hy]; simpa using hu
    · obtain ⟨i, hi, he⟩ := List.getElem_of_mem hs
      obtain ⟨x, y, h1, h2, h3, _⟩ := hp i s (by rw [List.getElem?_eq_getElem hi, he])
      exact ⟨x, y, h1, h2, h3⟩

theorem rows3 {S : Type} {w : World} (mk : Int → Int → Int → S) (d : Kd S) (hsz : d.sz = 3) (hK : ∀ x y z, d.K w (mk x y z) [.int .i64 x, .int .i64 y, .int .i64 z]) {a : Option Addr} {len cap : Nat} (h : RowCells w 3 a len cap) :
    ∃ l : List S, len = l.length ∧ d.C w a l.length l ∧ l.length ≤ cap ∧ l.length ≤ maxLen ∧ ∀ s ∈ l, ∃ x y z, s = mk x y z ∧ (Lit.int .i64 x).wf = true ∧ (Lit.int .i64 y).wf = true ∧ (Lit.int .i64 z).wf = true := by
  rcases h with ⟨rfl, rfl, rfl⟩ | ⟨ad, rfl, hl, hm, hc⟩
  · exact ⟨[], rfl, Kd.C_nil d w, Nat.le_refl _, Nat.zero_le _, fun s hs => by simp at hs⟩
  · obtain ⟨l, hll, hp⟩ := choose_list (α := S) (n := len) (p := fun i s => ∃ x y z, s = mk x y z ∧ (Lit.int .i64 x).wf = true ∧ (Lit.int .i64 y).wf = true ∧ (Lit.int .i64 z).wf = true ∧ w.cell? (ad.add (i * 3 + 0)) = some (.int .i64 x) ∧ w.cell? (ad.add (i * 3 + 1)) = some (.int .i64 y) ∧ w.cell? (ad.add (i * 3 + 2)) = some (.int .i64 z)) (fun i hi => by
      obtain ⟨x, hx, wx⟩ := hc i hi 0 (by omega)
      obtain ⟨y, hy, wy⟩ := hc i hi 1 (by omega)
      obtain ⟨z, hz, wz⟩ := hc i hi 2 (by omega)
      exact ⟨mk x y z, x, y, z, rfl, wx, wy, wz, hx, hy, hz⟩)
    subst hll
    refine ⟨l, rfl, ⟨rfl, ?_, fun _ => ⟨ad, rfl, fun j p hj => ?_⟩⟩, hl, Nat.le_trans hl hm, fun s hs => ?_⟩
    · unfold maxLen at hm; omega
    · obtain ⟨x, y, z, rfl, _, _, _, hx, hy, hz⟩ := hp j p hj
      refine ⟨[.int .i64 x, .int .i64 y, .int .i64 z], by rw [hsz]; rfl, hK x y z, fun i u hu => ?_⟩
      rw [hsz]
      match i, hu with
      | 0, hu => rw [hx]; simpa using hu
      | 1, hu => rw [hy]; simpa using hu
      | 2, hu => rw [hz]; simpa using hu
    · obtain ⟨i, hi, he⟩ := List.getElem_of_mem hs
      obtain ⟨x, y, z, h1, h2, h3, h4, _⟩ := hp i s (by rw [List.getElem?_eq_getElem hi, he])
      exact ⟨x, y, z, h1, h2, h3, h4⟩

end Go.Proofs.Ytkmklifflghojaa.Opened
