/-
  Demands and integers that come in: their cells. What 'szDemandS' answers.
  No condition.
-/
import Derived.Lib.SmallJoins
import Derived.Deep.Slices
import Derived.Deep.Fields
import Derived.ChangeSame
import Derived.Test.YthkoafcbcnobhaaRows
import Derived.Test.YthkoafcbcnobhaaLib
import Derived.Test.YthkoafcbcnobhaaBasD
namespace Go.Proofs.Ythkoafcbcnobhaa
open Go.RowKit Go.Joins Go.ChangeShapes Go.WideShapes Go.Deep
set_option linter.unusedVariables false
set_option linter.unusedSimpArgs false

theorem exists_list {α : Type} {p : Nat → α → Prop} : ∀ n : Nat, (∀ i, i < n → ∃ x, p i x) → ∃ xs : List α, xs.length = n ∧ ∀ i x, xs[i]? = some x → p i x
  | 0, _ => ⟨[], rfl, fun i x h => by simp at h⟩
  | n + 1, h => by
    obtain ⟨xs, h1, h2⟩ := exists_list n fun i hi => h i (by omega)
    obtain ⟨x, hx⟩ := h n (by omega)
    refine ⟨xs ++ [x], by simp [h1], fun i y hy => ?_⟩
    rcases Nat.lt_or_ge i n with hi | hi
    · rw [List.getElem?_append_left (by omega)] at hy
      exact h2 i y hy
    · rw [List.getElem?_append_right (by omega)] at hy
      have : i - xs.length = 0 := by
        have := (List.getElem?_eq_some_iff.1 hy).1
        simp at this
        omega
      rw [this] at hy
      simp at hy
      subst hy
      have : i = n := by omega
      subst this
      exact hx
theorem dms_of {w : World} {b off n : Nat} {xs : List Dm} (hn : xs.length = n) (h : ∀ i x, xs[i]? = some x → ∀ j, j < 4 → w.cell? ⟨b, off + i * 4 + j, none⟩ = x.c[j]?) : Dms w w.heap.size (some ⟨b, off, none⟩) n xs := by
  have key : ∀ j u, (xs.flatMap Dm.c)[j]? = some u → w.cell? ⟨b, off + j, none⟩ = some u := fun j u hu => by
    have e : j = j / 4 * 4 + j % 4 := by omega
    rw [e, flat_atD xs (j / 4) (j % 4) (Nat.mod_lt _ (by omega))] at hu
    cases hx : xs[j / 4]? with
    | none => rw [hx] at hu; cases hu
    | some x =>
      rw [hx] at hu
      have := h (j / 4) x hx (j % 4) (Nat.mod_lt _ (by omega))
      rw [show off + j = off + j / 4 * 4 + j % 4 by omega, this]
      exact hu
  refine ⟨by rw [flat_lenD, hn], fun h0 => ⟨b, off, rfl, ?_, key⟩⟩
  obtain ⟨x, hx⟩ : ∃ x, xs[0]? = some x := ⟨_, List.getElem?_eq_getElem (by omega)⟩
  have := h 0 x hx 0 (by omega)
  exact World.block_lt_of_cell? w _ (this.trans (show x.c[0]? = some (.int .i64 x.we) from rfl))

theorem dem_cells : Try.prog.cellsOf 52 = 4 := by kernel_rfl

theorem open_dms {H : Type} {enc : TypeId × Value → H} {W : World} {r : Reach} {b0 : Nat} {v : Value} {d : DataW H} {p : List MemPlace} (hval : Value.okWide Try.prog W r b0 22 v) (h0 : DataW.Trod enc Try.prog W 0 (fun _ => true) true 22 v d p) :
    ∃ A n c xs, v = .slice A n c ∧ n ≤ c ∧ c ≤ maxLen ∧ Dms W W.heap.size A n xs := by
  obtain ⟨fuel, h⟩ := h0
  obtain ⟨A0, len, cap, rfl⟩ := okWide_slice Try.underlying22 hval
  rcases open_slice Try.underlying22 h with ⟨e, _⟩ | ⟨a, l2, c2, m, n', D, Pl, e, hb, hl, hm, hmm, hx, hi⟩
  · simp [Value.cells] at e
    obtain ⟨rfl, rfl, rfl⟩ := e
    exact ⟨none, 0, 0, [], rfl, Nat.le_refl _, Nat.zero_le _, by simp, fun h => absurd h (by omega)⟩
  · simp [Value.cells] at e
    obtain ⟨rfl, rfl, rfl⟩ := e
    have hmc : m = cap := by simpa using hmm
    have hel : ∀ i, i < len → ∃ y : Dm, ∀ j, j < 4 → W.cell? (a.add (i * 4 + j)) = y.c[j]? := fun i hil => by
      obtain ⟨cs', hc, ht⟩ := hi i (by omega)
      rw [dem_cells] at hc
      obtain ⟨_, hcl, hat⟩ := World.cells?_some hc
      obtain ⟨y0, y1, y2, y3, n2, hy, _, h0, h1, h2, h3⟩ := trod_struct4 Try.underlying52 ht
      match cs', hcl with
      | [v0, v1, v2, v3], _ =>
        have t0 := DataW.trod_int Try.underlying3 (show DataW.trod enc Try.prog W 0 (fun _ => true) true n2 3 [v0] = some y0 from h0)
        have t1 := DataW.trod_int Try.underlying3 (show DataW.trod enc Try.prog W 0 (fun _ => true) true n2 3 [v1] = some y1 from h1)
        have t2 := DataW.trod_int Try.underlying3 (show DataW.trod enc Try.prog W 0 (fun _ => true) true n2 3 [v2] = some y2 from h2)
        have t3 := DataW.trod_int Try.underlying3 (show DataW.trod enc Try.prog W 0 (fun _ => true) true n2 3 [v3] = some y3 from h3)
        obtain ⟨z0, e0, -⟩ := t0
        obtain ⟨z1, e1, -⟩ := t1
        obtain ⟨z2, e2, -⟩ := t2
        obtain ⟨z3, e3, -⟩ := t3
        injection e0 with e0
        injection e1 with e1
        injection e2 with e2
        injection e3 with e3
        subst e0 e1 e2 e3
        refine ⟨⟨z0, z1, z2, z3⟩, fun j hj => ?_⟩
        have h3 := hat j hj
        rw [Go.Deep.add_add] at h3
        rw [h3]
        rfl
    obtain ⟨xs, hlen, hxs⟩ := exists_list len hel
    refine ⟨some a, len, cap, xs, rfl, hl, hm, ?_⟩
    rcases Nat.eq_zero_or_pos len with h0 | h0
    · subst h0
      have : xs = [] := List.eq_nil_of_length_eq_zero hlen
      subst this
      exact ⟨by simp, fun h => absurd h (by omega)⟩
    · obtain ⟨b, off, spot⟩ := a
      obtain ⟨y, hy⟩ : ∃ y, xs[0]? = some y := ⟨_, List.getElem?_eq_getElem (by omega)⟩
      have hc0 := hxs 0 y hy 0 (by omega)
      have hspot : spot = none := by simpa [Addr.add] using World.cell?_spot (hc0.trans (show y.c[0]? = some (.int .i64 y.we) from rfl))
      subst hspot
      refine dms_of hlen fun i z hz j hj => ?_
      have := hxs i z hz j hj
      rw [add_plain] at this
      rw [Nat.add_assoc]
      exact this

theorem int_cells : Try.prog.cellsOf 3 = 1 := by kernel_rfl
theorem open_intsD {H : Type} {enc : TypeId × Value → H} {W : World} {r : Reach} {b0 : Nat} {v : Value} {d : DataW H} {p : List MemPlace} (hval : Value.okWide Try.prog W r b0 23 v) (h0 : DataW.Trod enc Try.prog W 0 (fun _ => true) true 23 v d p) :
    ∃ A n c ls, v = .slice A n c ∧ n ≤ c ∧ c ≤ maxLen ∧ Ints W W.heap.size A n ls := by
  obtain ⟨fuel, h⟩ := h0
  obtain ⟨A0, len, cap, rfl⟩ := okWide_slice Try.underlying23 hval
  rcases open_slice Try.underlying23 h with ⟨e, _⟩ | ⟨a, l2, c2, m, n', D, Pl, e, hb, hl, hm, hmm, hx, hi⟩
  · simp [Value.cells] at e
    obtain ⟨rfl, rfl, rfl⟩ := e
    exact ⟨none, 0, 0, [], rfl, Nat.le_refl _, Nat.zero_le _, by simp, fun h => absurd h (by omega)⟩
  · simp [Value.cells] at e
    obtain ⟨rfl, rfl, rfl⟩ := e
    have hmc : m = cap := by simpa using hmm
    have hel : ∀ i, i < len → ∃ y : Int, W.cell? (a.add i) = some (.int .i64 y) := fun i hil => by
      obtain ⟨cs', hc, ht⟩ := hi i (by omega)
      rw [int_cells] at hc
      obtain ⟨_, hcl, hat⟩ := World.cells?_some hc
      match cs', hcl with
      | [v0], _ =>
        obtain ⟨z0, e0, -⟩ := DataW.trod_int Try.underlying3 ht
        injection e0 with e0
        subst e0
        refine ⟨z0, ?_⟩
        have h3 := hat 0 (by omega)
        rw [Go.Deep.add_add] at h3
        simpa using h3
    obtain ⟨ls, hlen, hls⟩ := exists_list len hel
    refine ⟨some a, len, cap, ls, rfl, hl, hm, by simp [hlen], fun h0 => ?_⟩
    obtain ⟨b, off, spot⟩ := a
    obtain ⟨y, hy⟩ : ∃ y, ls[0]? = some y := ⟨_, List.getElem?_eq_getElem (by omega)⟩
    have hc0 := hls 0 y hy
    have hspot : spot = none := by simpa [Addr.add] using World.cell?_spot hc0
    subst hspot
    refine ⟨b, off, rfl, by simpa [Addr.add] using World.block_lt_of_cell? W _ hc0, fun j u hu => ?_⟩
    rw [List.getElem?_map] at hu
    rcases hj : ls[j]? with _ | z
    · rw [hj] at hu; cases hu
    · rw [hj] at hu
      have := hls j z hj
      rw [add_plain] at this
      rw [this]
      exact hu
theorem open_intD {H : Type} {enc : TypeId × Value → H} {W : World} {r : Reach} {b0 : Nat} {v : Value} {d : DataW H} {p : List MemPlace} (hval : Value.okWide Try.prog W r b0 3 v) (h0 : DataW.Trod enc Try.prog W 0 (fun _ => true) true 3 v d p) :
    ∃ z, v = .int .i64 z ∧ (Lit.int .i64 z).wf = true := by
  obtain ⟨z, rfl⟩ := okWide_int Try.underlying3 hval
  refine ⟨z, rfl, ?_⟩
  obtain ⟨fuel, h⟩ := h0
  cases fuel with
  | zero => simp [DataW.trod] at h
  | succ m =>
    simp [DataW.trod, Try.underlying3, Value.cells] at h
    exact h.1

set_option maxHeartbeats 1000000 in
theorem szD_ok (A : Option Addr) (n c : Nat) (w : World) (hn : n ≤ 1048576) :
    Calls Try.prog 13 #[.slice A n c, .int .i64 1048576] w fun e w' => e = .returned (.int .i64 (1048576 - n)) ∧ w = w' := by
  have e0 : decide ((1048576 : Int) - n < 0) = false := by simp; omega
  go_enter Try.func13, Try.ntmps13
  go_wp2
  go_ret
  exact ⟨rfl, rfl⟩
set_option maxHeartbeats 1000000 in
theorem szD_no (A : Option Addr) (n c : Nat) (w : World) (hn : 1048576 < n) (hc : n ≤ maxLen) :
    Calls Try.prog 13 #[.slice A n c, .int .i64 1048576] w fun e w' => e = .returned (.int .i64 (-1)) ∧ w = w' := by
  unfold maxLen at hc
  have e0 : decide ((1048576 : Int) - n < 0) = true := by simp; omega
  go_enter Try.func13, Try.ntmps13
  go_wp2
  go_ret
  exact ⟨rfl, rfl⟩
end Go.Proofs.Ythkoafcbcnobhaa
