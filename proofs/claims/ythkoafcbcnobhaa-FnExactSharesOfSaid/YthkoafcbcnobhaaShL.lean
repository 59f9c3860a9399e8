/-
  Plain facts on costs and layers, for the laws.
  Conditions: as each theorem states them.
-/
import Derived.Test.YthkoafcbcnobhaaShS
namespace Go.Proofs.Ythkoafcbcnobhaa
open Go.RowKit
set_option linter.unusedVariables false
set_option linter.unusedSimpArgs false

theorem costI_one {x : Dm} {l : Int} (hx : dOk x) (h0 : -1 ≤ l) (h1 : l ≤ 2) : costI [x] [l] = cst x l := by
  rw [costI_true ⟨⟨by simp, by simpa using hx⟩, rfl, fun j hj => by
    have : j = 0 := by simpa using hj
    subst this
    exact ⟨h0, h1⟩⟩]
  simp [sumTo, dX, lX]
theorem sum_step {xs : List Dm} (h : lOk xs) (ls : List Int) : ∀ n : Nat, n ≤ xs.length → ∀ k, k < n → cst (dX xs k) (lX ls k) ≤ sumTo xs ls n
  | 0, _, k, hk => absurd hk (by omega)
  | n + 1, hn, k, hk => by
    have ih := sum_step h ls n (by omega)
    have hb := sum_bd h ls n (by omega)
    have hx : xs[n]? = some xs[n] := List.getElem?_eq_getElem (by omega)
    have hc := cst_bd (lOk_at h hx) (lX ls n)
    rw [← dX_of hx] at hc
    unfold sumTo
    by_cases e : k = n
    · subst e; omega
    · have := ih k (by omega)
      omega
theorem sum_same (xs : List Dm) {ls : List Int} {k : Nat} {z : Int} : ∀ n : Nat, n ≤ k → k < ls.length → sumTo xs (ls.set k z) n = sumTo xs ls n
  | 0, _, _ => rfl
  | n + 1, hn, hk => by
    unfold sumTo
    rw [sum_same xs n (by omega) hk, lX_set hk, if_neg (by omega)]
theorem sum_set (xs : List Dm) {ls : List Int} {k : Nat} {z : Int} (hk : k < ls.length) : ∀ n : Nat, k < n → sumTo xs (ls.set k z) n = sumTo xs ls n + (cst (dX xs k) z - cst (dX xs k) (lX ls k))
  | 0, h => absurd h (by omega)
  | n + 1, h => by
    unfold sumTo
    rw [lX_set hk]
    by_cases e : k = n
    · subst e
      rw [if_pos rfl, sum_same xs k (Nat.le_refl _) hk]
      omega
    · rw [if_neg e, sum_set xs hk n (by omega)]
      omega
theorem ys_set {ls : List Int} {k : Nat} {z : Int} (hk : k < ls.length) (h : ysTo ls ls.length) (h0 : -1 ≤ z) (h1 : z ≤ 2) : ysTo (ls.set k z) (ls.set k z).length := by
  intro j hj
  rw [List.length_set] at hj
  rw [lX_set hk]
  split
  · exact ⟨h0, h1⟩
  · exact h j hj
theorem shOk_set {xs : List Dm} {ls : List Int} {k : Nat} {z : Int} (h : shOk xs ls) (hk : k < ls.length) (h0 : -1 ≤ z) (h1 : z ≤ 2) : shOk xs (ls.set k z) := ⟨h.1, by rw [List.length_set]; exact h.2.1, ys_set hk h.2.2 h0 h1⟩
/-- One layer more costs one step more. -/
theorem costI_set {xs : List Dm} {ls : List Int} {k : Nat} (h : shOk xs ls) (hk : k < ls.length) (h1 : lX ls k < 2) : costI xs (ls.set k (lX ls k + 1)) = sumTo xs ls ls.length + stp (dX xs k) (lX ls k) := by
  have hb := h.2.2 k hk
  rw [costI_true (shOk_set h hk (by omega) (by omega)), List.length_set, sum_set xs hk ls.length hk]
  rfl
theorem stp_pos {x : Dm} {l : Int} (h : dOk x) (h0 : -1 ≤ l) (h1 : l < 2) : 0 < stp x l := by
  unfold dOk at h
  unfold stp cst
  rcases (show l = -1 ∨ l = 0 ∨ l = 1 by omega) with rfl | rfl | rfl <;> simp <;> omega
theorem sum_pos {xs : List Dm} {ls : List Int} {k : Nat} (h : shOk xs ls) (hk : k < ls.length) (h2 : lX ls k = 2) : 0 < sumTo xs ls ls.length := by
  have hs := sum_step h.1 ls ls.length (by rw [h.2.1]; exact Nat.le_refl _) k hk
  have hkx : k < xs.length := by rw [h.2.1]; exact hk
  have hx : xs[k]? = some xs[k] := List.getElem?_eq_getElem hkx
  have hd := lOk_at h.1 hx
  rw [← dX_of hx] at hd
  rw [h2] at hs
  have : cst (dX xs k) 2 = (dX xs k).hi := by simp [cst]
  unfold dOk at hd
  omega
theorem ints_cell {ls : List Int} {k : Nat} (hk : k < ls.length) : (ls.map (Value.int .i64))[k]? = some (.int .i64 (lX ls k)) := by
  rw [List.getElem?_map]
  unfold lX
  rw [List.getElem?_eq_getElem hk]
  rfl
theorem one_ints (ls : List Int) : ∀ u ∈ ls.map (Value.int .i64), u.oneCell' = true := by
  intro u hu
  obtain ⟨z, -, rfl⟩ := List.mem_map.1 hu
  rfl
/-- One element of a slice, as a slice of its own. -/
theorem Dms.one {w : World} {B n k b off : Nat} {xs : List Dm} (h : Dms w B (some ⟨b, off, none⟩) n xs) (hk : k < n) : Dms w B (some ⟨b, off + k * 4, none⟩) 1 [dX xs k] := by
  have hL := h.len
  obtain ⟨b', off', e, hb, hc⟩ := h.2 (by omega)
  injection e with e
  injection e with e1 e2
  subst e1 e2
  refine ⟨by simp [Dm.c], fun _ => ⟨b, off + k * 4, rfl, hb, fun j u hu => ?_⟩⟩
  rw [Nat.add_assoc]
  refine hc _ _ ?_
  have hj : j < 4 := by
    have := (List.getElem?_eq_some_iff.1 hu).1
    simpa [Dm.c] using this
  rw [flat_atD xs k j hj]
  have hx : xs[k]? = some xs[k] := List.getElem?_eq_getElem (by omega)
  rw [hx]
  rw [dX_of hx] at hu
  simpa using hu
theorem Ints.one {w : World} {B n k b off : Nat} {ls : List Int} (h : Ints w B (some ⟨b, off, none⟩) n ls) (hk : k < n) : Ints w B (some ⟨b, off + k, none⟩) 1 [lX ls k] := by
  have hL := h.len
  obtain ⟨b', off', e, hb, hc⟩ := h.2 (by omega)
  injection e with e
  injection e with e1 e2
  subst e1 e2
  refine ⟨by simp, fun _ => ⟨b, off + k, rfl, hb, fun j u hu => ?_⟩⟩
  have hj : j = 0 := by
    have := (List.getElem?_eq_some_iff.1 hu).1
    simpa using this
  subst hj
  refine hc _ _ ?_
  (try rw [Nat.add_zero])
  rw [ints_cell (by omega)]
  simpa using hu
end Go.Proofs.Ythkoafcbcnobhaa
