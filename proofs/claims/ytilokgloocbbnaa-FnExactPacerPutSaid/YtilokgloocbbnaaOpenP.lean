/-
  Pacers that come in: their cells.
  No condition.
-/
import Derived.Lib.SmallJoins
import Derived.Deep.Slices
import Derived.Deep.Fields
import Derived.ChangeSame
import Derived.Test.YtilokgloocbbnaaRows
import Derived.Test.YtilokgloocbbnaaLib
import Derived.Test.YtilokgloocbbnaaPac
namespace Go.Proofs.Ytilokgloocbbnaa
open Go.RowKit Go.Joins Go.ChangeShapes Go.WideShapes Go.Deep
set_option linter.unusedVariables false
set_option linter.unusedSimpArgs false

theorem exists_list {α : Type} {p : Nat → α → Prop} : ∀ n : Nat, (∀ i, i < n → ∃ x, p i x) → ∃ xs : List α, xs.length = n ∧ ∀ i x, xs[i]? = some x → p i x
  | 0, _ => ⟨[], rfl, fun i x h => by simp at h⟩
  | n + 1, h => by
    obtain ⟨xs, h1, h2⟩ := exists_list n fun i hi => h i (by omega)
    obtain ⟨x, hx⟩ := h n (by omega)
    refine ⟨xs ++ [x], by simp [h1], fun i y hy => ?_⟩
    rcases Nat.lt_or_ge i n with hi | hi
    · rw [List.getElem?_append_left (by omega)] at hy
      exact h2 i y hy
    · rw [List.getElem?_append_right (by omega)] at hy
      have : i - xs.length = 0 := by
        have := (List.getElem?_eq_some_iff.1 hy).1
        simp at this
        omega
      rw [this] at hy
      simp at hy
      subst hy
      have : i = n := by omega
      subst this
      exact hx
theorem wts_of {w : World} {b off n : Nat} {xs : List Wt} (hn : xs.length = n) (h : ∀ i x, xs[i]? = some x → ∀ j, j < 3 → w.cell? ⟨b, off + i * 3 + j, none⟩ = x.c[j]?) : Wts w w.heap.size (some ⟨b, off, none⟩) n xs := by
  have key : ∀ j u, (xs.flatMap Wt.c)[j]? = some u → w.cell? ⟨b, off + j, none⟩ = some u := fun j u hu => by
    have e : j = j / 3 * 3 + j % 3 := by omega
    rw [e, flat_at xs (j / 3) (j % 3) (Nat.mod_lt _ (by omega))] at hu
    cases hx : xs[j / 3]? with
    | none => rw [hx] at hu; cases hu
    | some x =>
      rw [hx] at hu
      have := h (j / 3) x hx (j % 3) (Nat.mod_lt _ (by omega))
      rw [show off + j = off + j / 3 * 3 + j % 3 by omega, this]
      exact hu
  refine ⟨by rw [flat_len, hn], fun h0 => ⟨b, off, rfl, ?_, key⟩⟩
  obtain ⟨x, hx⟩ : ∃ x, xs[0]? = some x := ⟨_, List.getElem?_eq_getElem (by omega)⟩
  have := h 0 x hx 0 (by omega)
  exact World.block_lt_of_cell? w _ (this.trans (show x.c[0]? = some (.int .i64 x.id) from rfl))

theorem wait_cells : Try.prog.cellsOf 43 = 3 := by kernel_rfl
theorem wait_one : oneCellFields Try.prog (match Try.prog.underlying 43 with | some (.struct fs) => fs | _ => #[]) = true := by kernel_rfl

theorem open_wts {H : Type} {enc : TypeId × Value → H} {W : World} {fuel : Nat} {cs : List Value} {x : DataW H × List MemPlace} (h : DataW.trod enc Try.prog W 0 (fun _ => true) true fuel 40 cs = some x) :
    ∃ A n c xs, cs = [.slice A n c] ∧ n ≤ c ∧ c ≤ maxLen ∧ Wts W W.heap.size A n xs := by
  rcases open_slice Try.underlying40 h with ⟨rfl, _⟩ | ⟨a, len, cap, m, n', D, Pl, rfl, hb, hl, hm, hmm, hx, hi⟩
  · exact ⟨none, 0, 0, [], rfl, Nat.le_refl _, Nat.zero_le _, by simp, fun h => absurd h (by omega)⟩
  · have hmc : m = cap := by simpa using hmm
    have hel : ∀ i, i < len → ∃ y : Wt, ∀ j, j < 3 → W.cell? (a.add (i * 3 + j)) = y.c[j]? := fun i hil => by
      obtain ⟨cs', hc, ht⟩ := hi i (by omega)
      rw [wait_cells] at hc
      obtain ⟨_, hcl, hat⟩ := World.cells?_some hc
      obtain ⟨y0, y1, y2, n2, hy, _, h0, h1, h2⟩ := trod_struct3 Try.underlying43 ht
      match cs', hcl with
      | [v0, v1, v2], _ =>
        have t0 := DataW.trod_int Try.underlying3 (show DataW.trod enc Try.prog W 0 (fun _ => true) true n2 3 [v0] = some y0 from h0)
        have t1 := DataW.trod_int Try.underlying3 (show DataW.trod enc Try.prog W 0 (fun _ => true) true n2 3 [v1] = some y1 from h1)
        have t2 := DataW.trod_int Try.underlying3 (show DataW.trod enc Try.prog W 0 (fun _ => true) true n2 3 [v2] = some y2 from h2)
        obtain ⟨z0, e0, -⟩ := t0
        obtain ⟨z1, e1, -⟩ := t1
        obtain ⟨z2, e2, -⟩ := t2
        injection e0 with e0
        injection e1 with e1
        injection e2 with e2
        subst e0 e1 e2
        refine ⟨⟨z0, z1, z2⟩, fun j hj => ?_⟩
        have h3 := hat j hj
        rw [Go.Deep.add_add] at h3
        rw [h3]
        rfl
    obtain ⟨xs, hlen, hxs⟩ := exists_list len hel
    refine ⟨some a, len, cap, xs, rfl, hl, hm, ?_⟩
    rcases Nat.eq_zero_or_pos len with h0 | h0
    · subst h0
      have : xs = [] := List.eq_nil_of_length_eq_zero hlen
      subst this
      exact ⟨by simp, fun h => absurd h (by omega)⟩
    · obtain ⟨b, off, spot⟩ := a
      obtain ⟨y, hy⟩ : ∃ y, xs[0]? = some y := ⟨_, List.getElem?_eq_getElem (by omega)⟩
      have hc0 := hxs 0 y hy 0 (by omega)
      have hspot : spot = none := by simpa [Addr.add] using World.cell?_spot (hc0.trans (show y.c[0]? = some (.int .i64 y.id) from rfl))
      subst hspot
      refine wts_of hlen fun i z hz j hj => ?_
      have := hxs i z hz j hj
      rw [add_plain] at this
      rw [Nat.add_assoc]
      exact this

theorem pacer_cells : Try.prog.cellsOf 42 = 3 := by kernel_rfl
/-- What a pacer that came in is made of. -/
theorem open_pacer {H : Type} {enc : TypeId × Value → H} {W : World} {r : Reach} {b0 : Nat} {v : Value} {d : DataW H} {p : List MemPlace} (hv : Value.okWide Try.prog W r b0 42 v) (h : DataW.Trod enc Try.prog W 0 (fun _ => true) true 42 v d p) :
    ∃ (ea cr : Int) (A : Option Addr) (n c : Nat) (xs : List Wt), v = .agg #[.int .i64 ea, .int .i64 cr, .slice A n c] ∧ n ≤ c ∧ c ≤ maxLen ∧ Wts W W.heap.size A n xs := by
  obtain ⟨v0, v1, v2, y0, y1, y2, n', rfl, _, _, h0, h1, h2⟩ := open_agg3 Try.underlying42 (by kernel_rfl) pacer_cells hv h
  obtain ⟨z0, e0, -⟩ := DataW.trod_int Try.underlying3 (show DataW.trod enc Try.prog W 0 (fun _ => true) true n' 3 [v0] = some y0 from h0)
  obtain ⟨z1, e1, -⟩ := DataW.trod_int Try.underlying3 (show DataW.trod enc Try.prog W 0 (fun _ => true) true n' 3 [v1] = some y1 from h1)
  obtain ⟨A, n, c, xs, e2, h3, h4, h5⟩ := open_wts (show DataW.trod enc Try.prog W 0 (fun _ => true) true n' 40 [v2] = some y2 from h2)
  injection e0 with e0
  injection e1 with e1
  injection e2 with e2
  subst e0 e1 e2
  exact ⟨z0, z1, A, n, c, xs, rfl, h3, h4, h5⟩
theorem open_wait {H : Type} {enc : TypeId × Value → H} {W : World} {r : Reach} {b0 : Nat} {v : Value} {d : DataW H} {p : List MemPlace} (hv : Value.okWide Try.prog W r b0 43 v) (h : DataW.Trod enc Try.prog W 0 (fun _ => true) true 43 v d p) :
    ∃ (x : Wt), v = .agg #[.int .i64 x.id, .int .i64 x.cl, .int .i64 x.sz] := by
  obtain ⟨v0, v1, v2, y0, y1, y2, n', rfl, _, _, h0, h1, h2⟩ := open_agg3 Try.underlying43 (by kernel_rfl) wait_cells hv h
  obtain ⟨z0, e0, -⟩ := DataW.trod_int Try.underlying3 (show DataW.trod enc Try.prog W 0 (fun _ => true) true n' 3 [v0] = some y0 from h0)
  obtain ⟨z1, e1, -⟩ := DataW.trod_int Try.underlying3 (show DataW.trod enc Try.prog W 0 (fun _ => true) true n' 3 [v1] = some y1 from h1)
  obtain ⟨z2, e2, -⟩ := DataW.trod_int Try.underlying3 (show DataW.trod enc Try.prog W 0 (fun _ => true) true n' 3 [v2] = some y2 from h2)
  injection e0 with e0
  injection e1 with e1
  injection e2 with e2
  subst e0 e1 e2
  exact ⟨⟨z0, z1, z2⟩, rfl⟩
end Go.Proofs.Ytilokgloocbbnaa
