/-
  Integers, slices of integers and of bytes that come in, opened.
  Conditions: none beyond what the row tells.
-/
import Derived.Test.YtjpglpglgkopiaaDoorRows
import Derived.Lib.SmallJoins
import Derived.Deep.Slices
import Derived.Deep.Fields
import Derived.ChangeSame
import Derived.ProofKit
import Derived.OpenShut
import Derived.Test.YtjpglpglgkopiaaDoorLib
import Derived.Test.YtjpglpglgkopiaaDoorDraw
namespace Go.Proofs.YtjpglpglgkopiaaDoor
open Go.RowKit Go.Joins Go.ChangeShapes Go.WideShapes Go.Deep Go.ChangeAt
set_option linter.unusedVariables false
set_option linter.unusedSimpArgs false
set_option maxRecDepth 100000

theorem exists_listI {α : Type} {p : Nat → α → Prop} : ∀ n : Nat, (∀ i, i < n → ∃ x, p i x) → ∃ xs : List α, xs.length = n ∧ ∀ i x, xs[i]? = some x → p i x
  | 0, _ => ⟨[], rfl, fun i x h => by simp at h⟩
  | n + 1, h => by
    obtain ⟨xs, h1, h2⟩ := exists_listI n fun i hi => h i (by omega)
    obtain ⟨x, hx⟩ := h n (by omega)
    refine ⟨xs ++ [x], by simp [h1], fun i y hy => ?_⟩
    rcases Nat.lt_or_ge i n with hi | hi
    · rw [List.getElem?_append_left (by omega)] at hy
      exact h2 i y hy
    · rw [List.getElem?_append_right (by omega)] at hy
      have : i - xs.length = 0 := by
        have := (List.getElem?_eq_some_iff.1 hy).1
        simp at this
        omega
      rw [this] at hy
      simp at hy
      subst hy
      have : i = n := by omega
      subst this
      exact hx
theorem intI_cells : Tryd.prog.cellsOf 3 = 1 := by kernel_rfl
theorem open_intsI {H : Type} {enc : TypeId × Value → H} {W : World} {r : Reach} {b0 : Nat} {v : Value} {d : DataW H} {p : List MemPlace} (hval : Value.okWide Tryd.prog W r b0 22 v) (h0 : DataW.Trod enc Tryd.prog W 0 (fun _ => true) true 22 v d p) :
    ∃ A n c ls, v = .slice A n c ∧ n ≤ c ∧ c ≤ maxLen ∧ Ints W W.heap.size A n ls := by
  obtain ⟨fuel, h⟩ := h0
  obtain ⟨A0, len, cap, rfl⟩ := okWide_slice Tryd.underlying22 hval
  rcases open_slice Tryd.underlying22 h with ⟨e, _⟩ | ⟨a, l2, c2, m, n', D, Pl, e, hb, hl, hm, hmm, hx, hi⟩
  · simp [Value.cells] at e
    obtain ⟨rfl, rfl, rfl⟩ := e
    exact ⟨none, 0, 0, [], rfl, Nat.le_refl _, Nat.zero_le _, by simp, fun h => absurd h (by omega)⟩
  · simp [Value.cells] at e
    obtain ⟨rfl, rfl, rfl⟩ := e
    have hmc : m = cap := by simpa using hmm
    have hel : ∀ i, i < len → ∃ y : Int, W.cell? (a.add i) = some (.int .i64 y) := fun i hil => by
      obtain ⟨cs', hc, ht⟩ := hi i (by omega)
      rw [intI_cells] at hc
      obtain ⟨_, hcl, hat⟩ := World.cells?_some hc
      match cs', hcl with
      | [v0], _ =>
        obtain ⟨z0, e0, -⟩ := DataW.trod_int Tryd.underlying3 ht
        injection e0 with e0
        subst e0
        refine ⟨z0, ?_⟩
        have h3 := hat 0 (by omega)
        rw [Go.Deep.add_add] at h3
        simpa using h3
    obtain ⟨ls, hlen, hls⟩ := exists_listI len hel
    refine ⟨some a, len, cap, ls, rfl, hl, hm, by simp [hlen], fun h0 => ?_⟩
    obtain ⟨b, off, spot⟩ := a
    obtain ⟨y, hy⟩ : ∃ y, ls[0]? = some y := ⟨_, List.getElem?_eq_getElem (by omega)⟩
    have hc0 := hls 0 y hy
    have hspot : spot = none := by simpa [Addr.add] using World.cell?_spot hc0
    subst hspot
    refine ⟨b, off, rfl, by simpa [Addr.add] using World.block_lt_of_cell? W _ hc0, fun j u hu => ?_⟩
    rw [List.getElem?_map] at hu
    rcases hj : ls[j]? with _ | z
    · rw [hj] at hu; cases hu
    · rw [hj] at hu
      have := hls j z hj
      rw [add_plain] at this
      rw [this]
      exact hu
theorem open_intI {H : Type} {enc : TypeId × Value → H} {W : World} {r : Reach} {b0 : Nat} {v : Value} {d : DataW H} {p : List MemPlace} (hval : Value.okWide Tryd.prog W r b0 3 v) (h0 : DataW.Trod enc Tryd.prog W 0 (fun _ => true) true 3 v d p) :
    ∃ z, v = .int .i64 z ∧ (Lit.int .i64 z).wf = true := by
  obtain ⟨z, rfl⟩ := okWide_int Tryd.underlying3 hval
  refine ⟨z, rfl, ?_⟩
  obtain ⟨fuel, h⟩ := h0
  cases fuel with
  | zero => simp [DataW.trod] at h
  | succ m =>
    simp [DataW.trod, Tryd.underlying3, Value.cells] at h
    exact h.1

theorem open_bytesI {H : Type} {enc : TypeId × Value → H} {W : World} {r : Reach} {b0 : Nat} {v : Value} {d : DataW H} {p : List MemPlace} (hval : Value.okWide Tryd.prog W r b0 31 v) (h0 : DataW.Trod enc Tryd.prog W 0 (fun _ => true) true 31 v d p) :
    ∃ a len cap, v = .slice a len cap ∧ Bytes W W.heap.size a len ∧ len ≤ cap ∧ cap ≤ maxLen := by
  obtain ⟨a0, len0, cap0, rfl⟩ := okWide_slice Tryd.underlying31 hval
  obtain ⟨fuel, hf⟩ := h0
  refine ⟨a0, len0, cap0, rfl, ?_⟩
  rcases open_ints Tryd.underlying31 Tryd.underlying5 (by kernel_rfl) hf with ⟨hcs, _⟩ | ⟨x, l, c, zs, hcs, _, hl, hm, hz, _, hcell, hwz⟩
  · simp [Value.cells] at hcs
    obtain ⟨rfl, rfl, rfl⟩ := hcs
    exact bytes_of_row (zs := []) (.inl ⟨rfl, rfl, rfl, rfl⟩)
  · simp [Value.cells] at hcs
    obtain ⟨rfl, rfl, rfl⟩ := hcs
    exact bytes_of_row (zs := zs) (.inr ⟨_, rfl, hl, hm, by simpa using hz, hcell, hwz⟩)
end Go.Proofs.YtjpglpglgkopiaaDoor
