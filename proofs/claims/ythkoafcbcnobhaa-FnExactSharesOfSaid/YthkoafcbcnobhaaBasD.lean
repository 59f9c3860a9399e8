/-
  Demand: the model, and slices of it.
  Conditions: as each theorem states them.
-/
import Derived.Test.YthkoafcbcnobhaaRows
import Derived.Test.YthkoafcbcnobhaaLib
import Derived.Test.YthkoafcbcnobhaaOwn
import Derived.Outline
namespace Go.Proofs.Ythkoafcbcnobhaa
open Go.RowKit
set_option linter.unusedVariables false
set_option linter.unusedSimpArgs false

structure Dm where
  we : Int
  lo : Int
  mi : Int
  hi : Int
deriving DecidableEq
def Dm.c (x : Dm) : List Value := [.int .i64 x.we, .int .i64 x.lo, .int .i64 x.mi, .int .i64 x.hi]
def Dm.v (x : Dm) : Value := .agg #[.int .i64 x.we, .int .i64 x.lo, .int .i64 x.mi, .int .i64 x.hi]
def Dms (w : World) (B : Nat) (A : Option Addr) (n : Nat) (xs : List Dm) : Prop := Sl w B 4 A n (xs.flatMap Dm.c)
theorem flat_lenD (xs : List Dm) : (xs.flatMap Dm.c).length = xs.length * 4 := by
  induction xs with
  | nil => rfl
  | cons x xs ih => simp only [List.flatMap_cons, List.length_append, ih, List.length_cons]; simp [Dm.c]; omega
theorem flat_atD (xs : List Dm) (i j : Nat) (hj : j < 4) : (xs.flatMap Dm.c)[i * 4 + j]? = (xs[i]?).bind fun x => x.c[j]? := by
  induction xs generalizing i with
  | nil => simp
  | cons x xs ih =>
    rw [List.flatMap_cons]
    cases i with
    | zero => rw [List.getElem?_append_left (by simp [Dm.c]; omega)]; simp
    | succ i =>
      rw [List.getElem?_append_right (by simp [Dm.c]; omega)]
      have : (i + 1) * 4 + j - x.c.length = i * 4 + j := by simp [Dm.c]; omega
      rw [this, ih]
      simp
theorem Dms.len {w : World} {B n : Nat} {A : Option Addr} {xs : List Dm} (h : Dms w B A n xs) : xs.length = n := by
  have := h.1
  rw [flat_lenD] at this
  omega
theorem Dms.below {w w' : World} {B n : Nat} {A : Option Addr} {xs : List Dm} (h : Dms w B A n xs) (hb : Below B w w') : Dms w' B A n xs := Sl.below h hb
theorem Dms.more {w : World} {B B' n : Nat} {A : Option Addr} {xs : List Dm} (h : Dms w B A n xs) (hB : B ≤ B') : Dms w B' A n xs := Sl.more h hB
theorem Dms.addr {w : World} {B n : Nat} {A : Option Addr} {xs : List Dm} (h : Dms w B A n xs) (hn : 0 < n) : ∃ b off, A = some ⟨b, off, none⟩ ∧ b < B ∧
    ∀ i x, xs[i]? = some x → w.cell? ⟨b, off + i * 4, none⟩ = some (.int .i64 x.we) ∧ w.cell? ⟨b, off + i * 4 + 1, none⟩ = some (.int .i64 x.lo) ∧ w.cell? ⟨b, off + i * 4 + 2, none⟩ = some (.int .i64 x.mi) ∧ w.cell? ⟨b, off + i * 4 + 3, none⟩ = some (.int .i64 x.hi) := by
  obtain ⟨b, off, e, hb, hc⟩ := h.2 hn
  refine ⟨b, off, e, hb, fun i x hx => ?_⟩
  have h0 := flat_atD xs i 0 (by omega)
  have h1 := flat_atD xs i 1 (by omega)
  have h2 := flat_atD xs i 2 (by omega)
  have h3 := flat_atD xs i 3 (by omega)
  rw [hx] at h0 h1 h2 h3
  simp only [Dm.c, Option.bind_some, List.getElem?_cons_zero, List.getElem?_cons_succ] at h0 h1 h2 h3
  have c0 := hc _ _ h0
  have c1 := hc _ _ h1
  have c2 := hc _ _ h2
  have c3 := hc _ _ h3
  simp only [Nat.add_zero, ← Nat.add_assoc] at c0 c1 c2 c3
  exact ⟨c0, c1, c2, c3⟩
end Go.Proofs.Ythkoafcbcnobhaa
