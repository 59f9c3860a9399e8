/-
  Packet: the model, and slices of it.
  Conditions: as each theorem states them.
-/
import Derived.Test.YthbkmnladaneaaaGreatDoorRows
import Derived.Test.YthbkmnladaneaaaGreatDoorLib
import Derived.Test.YthbkmnladaneaaaGreatDoorOwn
import Derived.Outline
namespace Go.Proofs.YthbkmnladaneaaaGreatDoor
open Go.RowKit
set_option linter.unusedVariables false
set_option linter.unusedSimpArgs false

structure Pk where
  wi : Int
  ti : Int
  la : Int
  si : Int
  ky : Bool
  en : Bool
deriving DecidableEq
def Pk.c (x : Pk) : List Value := [.int .i64 x.wi, .int .i64 x.ti, .int .i64 x.la, .int .i64 x.si, .bool x.ky, .bool x.en]
def Pk.v (x : Pk) : Value := .agg #[.int .i64 x.wi, .int .i64 x.ti, .int .i64 x.la, .int .i64 x.si, .bool x.ky, .bool x.en]
def Pks (w : World) (B : Nat) (A : Option Addr) (n : Nat) (xs : List Pk) : Prop := Sl w B 6 A n (xs.flatMap Pk.c)
theorem flat_lenP (xs : List Pk) : (xs.flatMap Pk.c).length = xs.length * 6 := by
  induction xs with
  | nil => rfl
  | cons x xs ih => simp only [List.flatMap_cons, List.length_append, ih, List.length_cons]; simp [Pk.c]; omega
theorem flat_atP (xs : List Pk) (i j : Nat) (hj : j < 6) : (xs.flatMap Pk.c)[i * 6 + j]? = (xs[i]?).bind fun x => x.c[j]? := by
  induction xs generalizing i with
  | nil => simp
  | cons x xs ih =>
    rw [List.flatMap_cons]
    cases i with
    | zero => rw [List.getElem?_append_left (by simp [Pk.c]; omega)]; simp
    | succ i =>
      rw [List.getElem?_append_right (by simp [Pk.c]; omega)]
      have : (i + 1) * 6 + j - x.c.length = i * 6 + j := by simp [Pk.c]; omega
      rw [this, ih]
      simp
theorem Pks.len {w : World} {B n : Nat} {A : Option Addr} {xs : List Pk} (h : Pks w B A n xs) : xs.length = n := by
  have := h.1
  rw [flat_lenP] at this
  omega
theorem Pks.below {w w' : World} {B n : Nat} {A : Option Addr} {xs : List Pk} (h : Pks w B A n xs) (hb : Below B w w') : Pks w' B A n xs := Sl.below h hb
theorem Pks.more {w : World} {B B' n : Nat} {A : Option Addr} {xs : List Pk} (h : Pks w B A n xs) (hB : B ≤ B') : Pks w B' A n xs := Sl.more h hB
theorem Pks.addr {w : World} {B n : Nat} {A : Option Addr} {xs : List Pk} (h : Pks w B A n xs) (hn : 0 < n) : ∃ b off, A = some ⟨b, off, none⟩ ∧ b < B ∧
    ∀ i x, xs[i]? = some x → w.cell? ⟨b, off + i * 6, none⟩ = some (.int .i64 x.wi) ∧ w.cell? ⟨b, off + i * 6 + 1, none⟩ = some (.int .i64 x.ti) ∧ w.cell? ⟨b, off + i * 6 + 2, none⟩ = some (.int .i64 x.la) ∧ w.cell? ⟨b, off + i * 6 + 3, none⟩ = some (.int .i64 x.si) ∧ w.cell? ⟨b, off + i * 6 + 4, none⟩ = some (.bool x.ky) ∧ w.cell? ⟨b, off + i * 6 + 5, none⟩ = some (.bool x.en) := by
  obtain ⟨b, off, e, hb, hc⟩ := h.2 hn
  refine ⟨b, off, e, hb, fun i x hx => ?_⟩
  have h0 := flat_atP xs i 0 (by omega)
  have h1 := flat_atP xs i 1 (by omega)
  have h2 := flat_atP xs i 2 (by omega)
  have h3 := flat_atP xs i 3 (by omega)
  have h4 := flat_atP xs i 4 (by omega)
  have h5 := flat_atP xs i 5 (by omega)
  rw [hx] at h0 h1 h2 h3 h4 h5
  simp only [Pk.c, Option.bind_some, List.getElem?_cons_zero, List.getElem?_cons_succ] at h0 h1 h2 h3 h4 h5
  have c0 := hc _ _ h0
  have c1 := hc _ _ h1
  have c2 := hc _ _ h2
  have c3 := hc _ _ h3
  have c4 := hc _ _ h4
  have c5 := hc _ _ h5
  simp only [Nat.add_zero, ← Nat.add_assoc] at c0 c1 c2 c3 c4 c5
  exact ⟨c0, c1, c2, c3, c4, c5⟩
end Go.Proofs.YthbkmnladaneaaaGreatDoor
