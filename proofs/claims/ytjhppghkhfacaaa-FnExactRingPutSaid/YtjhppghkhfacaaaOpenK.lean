/-
  Rings that come in: their cells.
  No condition.
-/
import Derived.Lib.SmallJoins
import Derived.Deep.Slices
import Derived.Deep.Fields
import Derived.ChangeSame
import Derived.Test.YtjhppghkhfacaaaRows
import Derived.Test.YtjhppghkhfacaaaLib
import Derived.Test.YtjhppghkhfacaaaBasP
namespace Go.Proofs.Ytjhppghkhfacaaa
open Go.RowKit Go.Joins Go.ChangeShapes Go.WideShapes Go.Deep
set_option linter.unusedVariables false
set_option linter.unusedSimpArgs false

theorem exists_list {α : Type} {p : Nat → α → Prop} : ∀ n : Nat, (∀ i, i < n → ∃ x, p i x) → ∃ xs : List α, xs.length = n ∧ ∀ i x, xs[i]? = some x → p i x
  | 0, _ => ⟨[], rfl, fun i x h => by simp at h⟩
  | n + 1, h => by
    obtain ⟨xs, h1, h2⟩ := exists_list n fun i hi => h i (by omega)
    obtain ⟨x, hx⟩ := h n (by omega)
    refine ⟨xs ++ [x], by simp [h1], fun i y hy => ?_⟩
    rcases Nat.lt_or_ge i n with hi | hi
    · rw [List.getElem?_append_left (by omega)] at hy
      exact h2 i y hy
    · rw [List.getElem?_append_right (by omega)] at hy
      have : i - xs.length = 0 := by
        have := (List.getElem?_eq_some_iff.1 hy).1
        simp at this
        omega
      rw [this] at hy
      simp at hy
      subst hy
      have : i = n := by omega
      subst this
      exact hx
theorem pks_of {w : World} {b off n : Nat} {xs : List Pk} (hn : xs.length = n) (h : ∀ i x, xs[i]? = some x → ∀ j, j < 6 → w.cell? ⟨b, off + i * 6 + j, none⟩ = x.c[j]?) : Pks w w.heap.size (some ⟨b, off, none⟩) n xs := by
  have key : ∀ j u, (xs.flatMap Pk.c)[j]? = some u → w.cell? ⟨b, off + j, none⟩ = some u := fun j u hu => by
    have e : j = j / 6 * 6 + j % 6 := by omega
    rw [e, flat_atP xs (j / 6) (j % 6) (Nat.mod_lt _ (by omega))] at hu
    cases hx : xs[j / 6]? with
    | none => rw [hx] at hu; cases hu
    | some x =>
      rw [hx] at hu
      have := h (j / 6) x hx (j % 6) (Nat.mod_lt _ (by omega))
      rw [show off + j = off + j / 6 * 6 + j % 6 by omega, this]
      exact hu
  refine ⟨by rw [flat_lenP, hn], fun h0 => ⟨b, off, rfl, ?_, key⟩⟩
  obtain ⟨x, hx⟩ : ∃ x, xs[0]? = some x := ⟨_, List.getElem?_eq_getElem (by omega)⟩
  have := h 0 x hx 0 (by omega)
  exact World.block_lt_of_cell? w _ (this.trans (show x.c[0]? = some (.int .i64 x.wi) from rfl))

section
variable {H : Type} {enc : TypeId × Value → H} {P : Program} {w : World} {base : Nat} {spare : Nat → Bool} {held : Bool}
theorem trod_struct6 {t : TypeId} {f0 f1 f2 f3 f4 f5 : Field} {fuel : Nat} {cs : List Value} {x : DataW H × List MemPlace} (ht : P.underlying t = some (.struct #[f0, f1, f2, f3, f4, f5])) (h : DataW.trod enc P w base spare held fuel t cs = some x) :
    ∃ y0 y1 y2 y3 y4 y5 n, x = (.agg [y0.1, y1.1, y2.1, y3.1, y4.1, y5.1], y0.2 ++ (y1.2 ++ (y2.2 ++ (y3.2 ++ (y4.2 ++ (y5.2)))))) ∧ cs.length = P.cellsOf t ∧ DataW.trod enc P w base spare held n f0.type ((cs.drop f0.offset).take (P.cellsOf f0.type)) = some y0 ∧ DataW.trod enc P w base spare held n f1.type ((cs.drop f1.offset).take (P.cellsOf f1.type)) = some y1 ∧ DataW.trod enc P w base spare held n f2.type ((cs.drop f2.offset).take (P.cellsOf f2.type)) = some y2 ∧ DataW.trod enc P w base spare held n f3.type ((cs.drop f3.offset).take (P.cellsOf f3.type)) = some y3 ∧ DataW.trod enc P w base spare held n f4.type ((cs.drop f4.offset).take (P.cellsOf f4.type)) = some y4 ∧ DataW.trod enc P w base spare held n f5.type ((cs.drop f5.offset).take (P.cellsOf f5.type)) = some y5 := by
  obtain ⟨xs, n, _, rfl, hl, hlen, hf⟩ := DataW.trod_struct ht h
  match xs, hlen with
  | [y0, y1, y2, y3, y4, y5], _ => exact ⟨y0, y1, y2, y3, y4, y5, n, by simp, hl, by simpa using hf 0 f0 rfl, by simpa using hf 1 f1 rfl, by simpa using hf 2 f2 rfl, by simpa using hf 3 f3 rfl, by simpa using hf 4 f4 rfl, by simpa using hf 5 f5 rfl⟩
theorem array6 {α : Type} {cs : Array α} (h : cs.size = 6) : ∃ v0 v1 v2 v3 v4 v5, cs = #[v0, v1, v2, v3, v4, v5] := by
  obtain ⟨l⟩ := cs
  match l, h with
  | [v0, v1, v2, v3, v4, v5], _ => exact ⟨v0, v1, v2, v3, v4, v5, rfl⟩
theorem open_agg6 {r : Reach} {b0 : Nat} {t : TypeId} {f0 f1 f2 f3 f4 f5 : Field} {v : Value} {d : DataW H} {p : List MemPlace} (hs : P.underlying t = some (.struct #[f0, f1, f2, f3, f4, f5])) (hone : oneCellFields P #[f0, f1, f2, f3, f4, f5] = true) (hC : P.cellsOf t = 6)
    (hv : Value.okWide P w r b0 t v) (h : DataW.Trod enc P w base spare held t v d p) :
    ∃ (v0 v1 v2 v3 v4 v5 : Value) (y0 y1 y2 y3 y4 y5 : DataW H × List MemPlace) (n : Nat), v = .agg #[v0, v1, v2, v3, v4, v5] ∧ DataW.trod enc P w base spare held n f0.type [v0] = some y0 ∧ DataW.trod enc P w base spare held n f1.type [v1] = some y1 ∧ DataW.trod enc P w base spare held n f2.type [v2] = some y2 ∧ DataW.trod enc P w base spare held n f3.type [v3] = some y3 ∧ DataW.trod enc P w base spare held n f4.type [v4] = some y4 ∧ DataW.trod enc P w base spare held n f5.type [v5] = some y5 := by
  obtain ⟨cs, rfl, hsz⟩ := okWide_struct hs hv
  obtain ⟨v0, v1, v2, v3, v4, v5, rfl⟩ := array6 (hsz.trans hC)
  obtain ⟨fuel, hf⟩ := h
  obtain ⟨y0, y1, y2, y3, y4, y5, n, hx, _, h0, h1, h2, h3, h4, h5⟩ := trod_struct6 hs hf
  obtain ⟨o0, k0⟩ := hone_of hone 0 f0 rfl
  obtain ⟨o1, k1⟩ := hone_of hone 1 f1 rfl
  obtain ⟨o2, k2⟩ := hone_of hone 2 f2 rfl
  obtain ⟨o3, k3⟩ := hone_of hone 3 f3 rfl
  obtain ⟨o4, k4⟩ := hone_of hone 4 f4 rfl
  obtain ⟨o5, k5⟩ := hone_of hone 5 f5 rfl
  exact ⟨v0, v1, v2, v3, v4, v5, y0, y1, y2, y3, y4, y5, n, rfl, by simpa [Value.cells, o0, k0] using h0, by simpa [Value.cells, o1, k1] using h1, by simpa [Value.cells, o2, k2] using h2, by simpa [Value.cells, o3, k3] using h3, by simpa [Value.cells, o4, k4] using h4, by simpa [Value.cells, o5, k5] using h5⟩
end
theorem pk_cells : Try.prog.cellsOf 41 = 6 := by kernel_rfl
theorem pk_one : oneCellFields Try.prog (match Try.prog.underlying 41 with | some (.struct fs) => fs | _ => #[]) = true := by kernel_rfl

theorem open_pks {H : Type} {enc : TypeId × Value → H} {W : World} {fuel : Nat} {cs : List Value} {x : DataW H × List MemPlace} (h : DataW.trod enc Try.prog W 0 (fun _ => true) true fuel 38 cs = some x) :
    ∃ A n c xs, cs = [.slice A n c] ∧ n ≤ c ∧ c ≤ maxLen ∧ Pks W W.heap.size A n xs := by
  rcases open_slice Try.underlying38 h with ⟨rfl, _⟩ | ⟨a, len, cap, m, n', D, Pl, rfl, hb, hl, hm, hmm, hx, hi⟩
  · exact ⟨none, 0, 0, [], rfl, Nat.le_refl _, Nat.zero_le _, by simp, fun h => absurd h (by omega)⟩
  · have hmc : m = cap := by simpa using hmm
    have hel : ∀ i, i < len → ∃ y : Pk, ∀ j, j < 6 → W.cell? (a.add (i * 6 + j)) = y.c[j]? := fun i hil => by
      obtain ⟨cs', hc, ht⟩ := hi i (by omega)
      rw [pk_cells] at hc
      obtain ⟨_, hcl, hat⟩ := World.cells?_some hc
      obtain ⟨y0, y1, y2, y3, y4, y5, n2, hy, _, h0, h1, h2, h3, h4, h5⟩ := trod_struct6 Try.underlying41 ht
      match cs', hcl with
      | [v0, v1, v2, v3, v4, v5], _ =>
        obtain ⟨z0, e0, -⟩ := DataW.trod_int Try.underlying3 (show DataW.trod enc Try.prog W 0 (fun _ => true) true n2 3 [v0] = some y0 from h0)
        obtain ⟨z1, e1, -⟩ := DataW.trod_int Try.underlying3 (show DataW.trod enc Try.prog W 0 (fun _ => true) true n2 3 [v1] = some y1 from h1)
        obtain ⟨z2, e2, -⟩ := DataW.trod_int Try.underlying3 (show DataW.trod enc Try.prog W 0 (fun _ => true) true n2 3 [v2] = some y2 from h2)
        obtain ⟨z3, e3, -⟩ := DataW.trod_int Try.underlying3 (show DataW.trod enc Try.prog W 0 (fun _ => true) true n2 3 [v3] = some y3 from h3)
        obtain ⟨z4, e4, -⟩ := DataW.trod_bool Try.underlying4 (show DataW.trod enc Try.prog W 0 (fun _ => true) true n2 4 [v4] = some y4 from h4)
        obtain ⟨z5, e5, -⟩ := DataW.trod_bool Try.underlying4 (show DataW.trod enc Try.prog W 0 (fun _ => true) true n2 4 [v5] = some y5 from h5)
        injection e0 with e0
        injection e1 with e1
        injection e2 with e2
        injection e3 with e3
        injection e4 with e4
        injection e5 with e5
        subst e0 e1 e2 e3 e4 e5
        refine ⟨⟨z0, z1, z2, z3, z4, z5⟩, fun j hj => ?_⟩
        have h9 := hat j hj
        rw [Go.Deep.add_add] at h9
        rw [h9]
        rfl
    obtain ⟨xs, hlen, hxs⟩ := exists_list len hel
    refine ⟨some a, len, cap, xs, rfl, hl, hm, ?_⟩
    rcases Nat.eq_zero_or_pos len with h0 | h0
    · subst h0
      have : xs = [] := List.eq_nil_of_length_eq_zero hlen
      subst this
      exact ⟨by simp, fun h => absurd h (by omega)⟩
    · obtain ⟨b, off, spot⟩ := a
      obtain ⟨y, hy⟩ : ∃ y, xs[0]? = some y := ⟨_, List.getElem?_eq_getElem (by omega)⟩
      have hc0 := hxs 0 y hy 0 (by omega)
      have hspot : spot = none := by simpa [Addr.add] using World.cell?_spot (hc0.trans (show y.c[0]? = some (.int .i64 y.wi) from rfl))
      subst hspot
      refine pks_of hlen fun i z hz j hj => ?_
      have := hxs i z hz j hj
      rw [add_plain] at this
      rw [Nat.add_assoc]
      exact this

theorem ring_cells : Try.prog.cellsOf 40 = 3 := by kernel_rfl
/-- What a ring that came in is made of. -/
theorem open_ring {H : Type} {enc : TypeId × Value → H} {W : World} {r : Reach} {b0 : Nat} {v : Value} {d : DataW H} {p : List MemPlace} (hv : Value.okWide Try.prog W r b0 40 v) (h : DataW.Trod enc Try.prog W 0 (fun _ => true) true 40 v d p) :
    ∃ (ea cr : Int) (A : Option Addr) (n c : Nat) (xs : List Pk), v = .agg #[.int .i64 ea, .int .i64 cr, .slice A n c] ∧ n ≤ c ∧ c ≤ maxLen ∧ Pks W W.heap.size A n xs := by
  obtain ⟨v0, v1, v2, y0, y1, y2, n', rfl, _, _, h0, h1, h2⟩ := open_agg3 Try.underlying40 (by kernel_rfl) ring_cells hv h
  obtain ⟨z0, e0, -⟩ := DataW.trod_int Try.underlying3 (show DataW.trod enc Try.prog W 0 (fun _ => true) true n' 3 [v0] = some y0 from h0)
  obtain ⟨z1, e1, -⟩ := DataW.trod_int Try.underlying3 (show DataW.trod enc Try.prog W 0 (fun _ => true) true n' 3 [v1] = some y1 from h1)
  obtain ⟨A, n, c, xs, e2, h3, h4, h5⟩ := open_pks (show DataW.trod enc Try.prog W 0 (fun _ => true) true n' 38 [v2] = some y2 from h2)
  injection e0 with e0
  injection e1 with e1
  injection e2 with e2
  subst e0 e1 e2
  exact ⟨z0, z1, A, n, c, xs, rfl, h3, h4, h5⟩
theorem open_pk {H : Type} {enc : TypeId × Value → H} {W : World} {r : Reach} {b0 : Nat} {v : Value} {d : DataW H} {p : List MemPlace} (hv : Value.okWide Try.prog W r b0 41 v) (h : DataW.Trod enc Try.prog W 0 (fun _ => true) true 41 v d p) :
    ∃ (x : Pk), v = .agg #[.int .i64 x.wi, .int .i64 x.ti, .int .i64 x.la, .int .i64 x.si, .bool x.ky, .bool x.en] := by
  obtain ⟨v0, v1, v2, v3, v4, v5, y0, y1, y2, y3, y4, y5, n', rfl, h0, h1, h2, h3, h4, h5⟩ := open_agg6 Try.underlying41 (by kernel_rfl) pk_cells hv h
  obtain ⟨z0, e0, -⟩ := DataW.trod_int Try.underlying3 (show DataW.trod enc Try.prog W 0 (fun _ => true) true n' 3 [v0] = some y0 from h0)
  obtain ⟨z1, e1, -⟩ := DataW.trod_int Try.underlying3 (show DataW.trod enc Try.prog W 0 (fun _ => true) true n' 3 [v1] = some y1 from h1)
  obtain ⟨z2, e2, -⟩ := DataW.trod_int Try.underlying3 (show DataW.trod enc Try.prog W 0 (fun _ => true) true n' 3 [v2] = some y2 from h2)
  obtain ⟨z3, e3, -⟩ := DataW.trod_int Try.underlying3 (show DataW.trod enc Try.prog W 0 (fun _ => true) true n' 3 [v3] = some y3 from h3)
  obtain ⟨z4, e4, -⟩ := DataW.trod_bool Try.underlying4 (show DataW.trod enc Try.prog W 0 (fun _ => true) true n' 4 [v4] = some y4 from h4)
  obtain ⟨z5, e5, -⟩ := DataW.trod_bool Try.underlying4 (show DataW.trod enc Try.prog W 0 (fun _ => true) true n' 4 [v5] = some y5 from h5)
  injection e0 with e0
  injection e1 with e1
  injection e2 with e2
  injection e3 with e3
  injection e4 with e4
  injection e5 with e5
  subst e0 e1 e2 e3 e4 e5
  exact ⟨⟨z0, z1, z2, z3, z4, z5⟩, rfl⟩
end Go.Proofs.Ytjhppghkhfacaaa
