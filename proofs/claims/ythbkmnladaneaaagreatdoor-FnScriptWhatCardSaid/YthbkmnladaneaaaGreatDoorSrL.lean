/-
  The ring as an array: what a put leaves, in plain words.
  Conditions: as each theorem states them.
-/
import Derived.Test.YthbkmnladaneaaaGreatDoorSrN
namespace Go.Proofs.YthbkmnladaneaaaGreatDoor
open Go.RowKit
set_option linter.unusedVariables false
set_option linter.unusedSimpArgs false
set_option maxRecDepth 100000

theorem mod_ne {r a b : Nat} (h1 : 1 ≤ r) (h8 : r ≤ 8) (hab : a < b) (hb : b < a + r) : a % r ≠ b % r := by
  rcases (show r = 1 ∨ r = 2 ∨ r = 3 ∨ r = 4 ∨ r = 5 ∨ r = 6 ∨ r = 7 ∨ r = 8 by omega) with rfl | rfl | rfl | rfl | rfl | rfl | rfl | rfl <;> omega
theorem ps_at (xs : List Pk) (r o : Nat) (h1 : 1 ≤ r) (h8 : r ≤ 8) : ∀ k, k ≤ r → ∀ i, i < k → (psOf xs r o k)[(o + i) % r]? = some (xs[i]?.getD pk0)
  | 0, _, i, hi => absurd hi (by omega)
  | k + 1, hk, i, hi => by
    have hl := psOf_len xs r o k
    have hm : (o + k) % r < r := Nat.mod_lt _ (by omega)
    rw [psOf]
    by_cases e : i = k
    · subst e
      rw [List.getElem?_set_self (by omega)]
    · rw [List.getElem?_set_ne (fun he => mod_ne h1 h8 (a := o + i) (b := o + k) (by omega) (by omega) he.symm)]
      exact ps_at xs r o h1 h8 k (by omega) i (by omega)
theorem put_items {xs : List Pk} {r o c n : Nat} {p : Pk} (hx : xs.length = n) (h1 : 1 ≤ r) (h8 : r ≤ 8) (hn : n ≤ r) (hc : c = o + n) :
    itemsOf ((psOf xs r o n).set (c % r) p) r (olN r o c) (c + 1 - olN r o c) = putL (r : Int) xs p := by
  subst hc
  obtain ⟨k, hk⟩ : ∃ k, n + 1 - r = k := ⟨_, rfl⟩
  have hol : olN r o (o + n) = o + k := by
    unfold olN
    split <;> omega
  have hput : putL (r : Int) xs p = (xs ++ [p]).drop k := by
    unfold putL
    rw [hx, show ((n : Int) + 1 - r).toNat = k by omega]
  rw [hol, hput]
  have hl := psOf_len xs r o n
  have hm : (o + n) % r < r := Nat.mod_lt _ (by omega)
  refine List.ext_getElem? fun i => ?_
  rw [List.getElem?_drop]
  by_cases hi : i < o + n + 1 - (o + k)
  · unfold itemsOf
    rw [List.getElem?_map, List.getElem?_range hi]
    simp only [Option.map_some]
    by_cases e : k + i = n
    · rw [show o + k + i = o + n by omega, List.getElem?_set_self (by omega), e, List.getElem?_append_right (by omega), hx]
      simp
    · rw [List.getElem?_set_ne (fun he => mod_ne h1 h8 (a := o + k + i) (b := o + n) (by omega) (by omega) he.symm), show o + k + i = o + (k + i) by omega, ps_at xs r o h1 h8 n hn (k + i) (by omega), List.getElem?_append_left (by omega)]
      rw [List.getElem?_eq_getElem (show k + i < xs.length by omega)]
      rfl
  · rw [List.getElem?_eq_none (by rw [items_len]; omega), List.getElem?_eq_none (by rw [List.length_append]; simp; omega)]
theorem olN_le {r o c : Nat} (hoc : o ≤ c) (hn : c - o ≤ r) (h1 : 1 ≤ r) : olN r o c ≤ c + 1 ∧ c + 1 - olN r o c ≤ r := by
  unfold olN
  split <;> omega
end Go.Proofs.YthbkmnladaneaaaGreatDoor
