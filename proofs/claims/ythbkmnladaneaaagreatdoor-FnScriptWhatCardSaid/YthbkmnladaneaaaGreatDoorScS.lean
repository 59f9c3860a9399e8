/-
  Slices of Packet: small words.
  Conditions: the slices' memory and lengths, as each theorem states them.
-/
import Derived.Test.YthbkmnladaneaaaGreatDoorRows
import Derived.Test.YthbkmnladaneaaaGreatDoorLib
import Derived.Test.YthbkmnladaneaaaGreatDoorOwn
import Derived.Test.YthbkmnladaneaaaGreatDoorBut
import Derived.Test.YthbkmnladaneaaaGreatDoorBasP
import Derived.Outline
namespace Go.Proofs.YthbkmnladaneaaaGreatDoor
open Go.RowKit
set_option linter.unusedVariables false
set_option linter.unusedSimpArgs false

theorem Bk.put {w : World} {g o : Nat} {T : TypeId} {pre r : List Value} {x : Value} (h : Bk w g T (pre ++ x :: r).toArray) (ho : pre.length = o) (v : Value) : Bk (w.setCell ⟨g, o, none⟩ v) g T (pre ++ v :: r).toArray := by
  have h1 := h.set_ o v
  subst ho
  have e : (pre ++ x :: r).set pre.length v = pre ++ v :: r := by simp [List.set_append]
  rw [List.setIfInBounds_toArray, e] at h1
  exact h1
theorem Bk.at_ {w : World} {g o : Nat} {T : TypeId} {pre r : List Value} {x : Value} (h : Bk w g T (pre ++ x :: r).toArray) (ho : pre.length = o) : w.cell? ⟨g, o, none⟩ = some x := by
  rw [h.cell o]
  subst ho
  simp
theorem split_6 {r : List Value} (h : 6 ≤ r.length) : ∃ x0 x1 x2 x3 x4 x5 r', r = x0 :: x1 :: x2 :: x3 :: x4 :: x5 :: r' := by
  match r, h with
  | x0 :: x1 :: x2 :: x3 :: x4 :: x5 :: r', _ => exact ⟨x0, x1, x2, x3, x4, x5, r', rfl⟩

theorem flat_succP (xs : List Pk) (k : Nat) (x : Pk) (h : xs[k]? = some x) : (xs.take (k + 1)).flatMap Pk.c = (xs.take k).flatMap Pk.c ++ x.c := by
  have hlt := (List.getElem?_eq_some_iff.1 h).1
  have hx := (List.getElem?_eq_some_iff.1 h).2
  rw [List.take_succ_eq_append_getElem hlt, hx]
  simp
theorem flat_tlenP (xs : List Pk) (k : Nat) (h : k ≤ xs.length) : ((xs.take k).flatMap Pk.c).length = k * 6 := by
  rw [flat_lenP, List.length_take]
  rw [Nat.min_eq_left h]

theorem info_P : (Tryz.prog.info? 81).map (fun i => (i.zero, i.size, i.bytes)) = some (some (.agg #[.int .i64 0, .int .i64 0, .int .i64 0, .int .i64 0, .bool false, .bool false]), 6, 40) := by kernel_rfl
theorem seq_rowP {w : World} {g n : Nat} {xs : List Pk} (h : Bk w g 81 (xs.flatMap Pk.c).toArray) (hn : xs.length = n) : Pks w w.heap.size (some ⟨g, 0, none⟩) n xs :=
  ⟨by rw [flat_lenP, hn], fun _ => ⟨g, 0, rfl, h.lt, fun j u hu => by rw [Nat.zero_add, h.cell j]; simpa using hu⟩⟩
end Go.Proofs.YthbkmnladaneaaaGreatDoor
