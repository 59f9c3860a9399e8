/-
  The ring as an array: newRingBuffer, put, ring.
  Conditions: as each theorem states them.
-/
import Derived.Deep.RegionHeld3
import Derived.Deep.MidRow
import Derived.StillTailTactics
import Derived.Test.YthbkmnladaneaaaGreatDoorSrP
namespace Go.Proofs.YthbkmnladaneaaaGreatDoor
open Go.RowKit
set_option linter.unusedVariables false
set_option linter.unusedSimpArgs false
set_option maxRecDepth 100000

/-- The packet of no number. -/
def pk0 : Pk := ⟨0, 0, 0, 0, false, false⟩
/-- A ring as an array in memory: 48 cells of packets, the room, the oldest number, the count. -/
def bufC (ps : List Pk) (ro ol co : Int) : List Value := ps.flatMap Pk.c ++ [.int .i64 ro, .int .i64 ol, .int .i64 co]
def RBk (T : TypeId) (w : World) (g : Nat) (ps : List Pk) (ro ol co : Int) : Prop := ps.length = 8 ∧ Bk w g T (bufC ps ro ol co).toArray
theorem flat_at8 {ps : List Pk} {ro ol co : Int} (h : ps.length = 8) : (bufC ps ro ol co)[48]? = some (.int .i64 ro) ∧ (bufC ps ro ol co)[49]? = some (.int .i64 ol) ∧ (bufC ps ro ol co)[50]? = some (.int .i64 co) := by
  have hl : (ps.flatMap Pk.c).length = 48 := by rw [flat_lenP, h]
  unfold bufC
  refine ⟨?_, ?_, ?_⟩ <;> rw [List.getElem?_append_right (by omega), hl] <;> rfl
theorem bufC_len {ps : List Pk} {ro ol co : Int} (h : ps.length = 8) : (bufC ps ro ol co).length = 51 := by
  unfold bufC
  rw [List.length_append, flat_lenP, h]
  rfl
theorem one_buf {ps : List Pk} {ro ol co : Int} : ∀ u ∈ bufC ps ro ol co, u.oneCell' = true := by
  intro u hu
  unfold bufC at hu
  rcases List.mem_append.1 hu with h | h
  · exact one_pks ps u h
  · simp at h
    rcases h with rfl | rfl | rfl <;> rfl
theorem RBk.lt {T : TypeId} {w : World} {g : Nat} {ps : List Pk} {ro ol co : Int} (h : RBk T w g ps ro ol co) : g < w.heap.size := h.2.lt
theorem RBk.cells {T : TypeId} {w : World} {g : Nat} {ps : List Pk} {ro ol co : Int} (h : RBk T w g ps ro ol co) : w.cell? ⟨g, 48, none⟩ = some (.int .i64 ro) ∧ w.cell? ⟨g, 49, none⟩ = some (.int .i64 ol) ∧ w.cell? ⟨g, 50, none⟩ = some (.int .i64 co) := by
  obtain ⟨h1, h2, h3⟩ := flat_at8 (ro := ro) (ol := ol) (co := co) h.1
  refine ⟨?_, ?_, ?_⟩
  · rw [h.2.cell 48]; simpa using h1
  · rw [h.2.cell 49]; simpa using h2
  · rw [h.2.cell 50]; simpa using h3
theorem buf_at {ps : List Pk} {ro ol co : Int} {k j : Nat} {x : Pk} (hx : ps[k]? = some x) (hj : j < 6) : (bufC ps ro ol co)[k * 6 + j]? = x.c[j]? := by
  have hk := (List.getElem?_eq_some_iff.1 hx).1
  unfold bufC
  rw [List.getElem?_append_left (by rw [flat_lenP]; omega), flat_atP _ _ _ hj, hx]
  rfl
theorem RBk.at_ {T : TypeId} {w : World} {g k : Nat} {ps : List Pk} {ro ol co : Int} {x : Pk} (h : RBk T w g ps ro ol co) (hx : ps[k]? = some x) : w.cell? ⟨g, k * 6, none⟩ = some (.int .i64 x.wi) ∧ w.cell? ⟨g, k * 6 + 1, none⟩ = some (.int .i64 x.ti) ∧ w.cell? ⟨g, k * 6 + 2, none⟩ = some (.int .i64 x.la) ∧ w.cell? ⟨g, k * 6 + 3, none⟩ = some (.int .i64 x.si) ∧ w.cell? ⟨g, k * 6 + 4, none⟩ = some (.bool x.ky) ∧ w.cell? ⟨g, k * 6 + 5, none⟩ = some (.bool x.en) := by
  refine ⟨?_, ?_, ?_, ?_, ?_, ?_⟩
  · rw [h.2.cell]; simpa [Pk.c] using buf_at (ro := ro) (ol := ol) (co := co) (j := 0) hx (by omega)
  · rw [h.2.cell]; simpa [Pk.c] using buf_at (ro := ro) (ol := ol) (co := co) (j := 1) hx (by omega)
  · rw [h.2.cell]; simpa [Pk.c] using buf_at (ro := ro) (ol := ol) (co := co) (j := 2) hx (by omega)
  · rw [h.2.cell]; simpa [Pk.c] using buf_at (ro := ro) (ol := ol) (co := co) (j := 3) hx (by omega)
  · rw [h.2.cell]; simpa [Pk.c] using buf_at (ro := ro) (ol := ol) (co := co) (j := 4) hx (by omega)
  · rw [h.2.cell]; simpa [Pk.c] using buf_at (ro := ro) (ol := ol) (co := co) (j := 5) hx (by omega)
theorem RBk.free {T : TypeId} {w : World} {g : Nat} {ps : List Pk} {ro ol co : Int} (h : RBk T w g ps ro ol co) (i : Nat) : w.frozen? ⟨g, i, none⟩ = false := h.2.frozen i
theorem RBk.below {T : TypeId} {B : Nat} {w w' : World} {g : Nat} {ps : List Pk} {ro ol co : Int} (h : RBk T w g ps ro ol co) (hb : Below B w w') (hg : g < B) : RBk T w' g ps ro ol co := ⟨h.1, h.2.below hb hg⟩
theorem RBk.drewN {T : TypeId} {w : World} {g n : Nat} {ps : List Pk} {ro ol co : Int} (h : RBk T w g ps ro ol co) : RBk T (w.drewN n) g ps ro ol co := h
theorem RBk.ol {T : TypeId} {w : World} {g : Nat} {ps : List Pk} {ro ol co z : Int} (h : RBk T w g ps ro ol co) : RBk T (w.setCell ⟨g, 49, none⟩ (.int .i64 z)) g ps ro z co := by
  refine ⟨h.1, ?_⟩
  have := h.2.set_ 49 (.int .i64 z)
  have hl : (ps.flatMap Pk.c).length = 48 := by rw [flat_lenP, h.1]
  rw [List.setIfInBounds_toArray] at this
  unfold bufC at this ⊢
  rw [List.set_append_right _ _ (by omega), hl] at this
  exact this
theorem RBk.co {T : TypeId} {w : World} {g : Nat} {ps : List Pk} {ro ol co z : Int} (h : RBk T w g ps ro ol co) : RBk T (w.setCell ⟨g, 50, none⟩ (.int .i64 z)) g ps ro ol z := by
  refine ⟨h.1, ?_⟩
  have := h.2.set_ 50 (.int .i64 z)
  have hl : (ps.flatMap Pk.c).length = 48 := by rw [flat_lenP, h.1]
  rw [List.setIfInBounds_toArray] at this
  unfold bufC at this ⊢
  rw [List.set_append_right _ _ (by omega), hl] at this
  exact this
theorem set6 {ps : List Pk} {k : Nat} {x : Pk} (hk : k < ps.length) : (((((((ps.flatMap Pk.c).set (k * 6) (.int .i64 x.wi)).set (k * 6 + 1) (.int .i64 x.ti)).set (k * 6 + 2) (.int .i64 x.la)).set (k * 6 + 3) (.int .i64 x.si)).set (k * 6 + 4) (.bool x.ky)).set (k * 6 + 5) (.bool x.en)) = (ps.set k x).flatMap Pk.c := by
  refine List.ext_getElem? fun i => ?_
  have e : i = i / 6 * 6 + i % 6 := by omega
  have hi6 : i % 6 < 6 := Nat.mod_lt _ (by omega)
  have hlen : ∀ j, j < 6 → k * 6 + j < (ps.flatMap Pk.c).length := fun j hj => by rw [flat_lenP]; omega
  by_cases h1 : i / 6 = k
  · have hr : ((ps.set k x).flatMap Pk.c)[i / 6 * 6 + i % 6]? = x.c[i % 6]? := by
      rw [flat_atP _ _ _ hi6, h1, List.getElem?_set_self (by omega)]
      rfl
    rw [← e] at hr
    rw [hr]
    clear hr e
    obtain ⟨j, hj⟩ : ∃ j, i % 6 = j := ⟨_, rfl⟩
    rw [hj] at hi6 ⊢
    have e2 : i = k * 6 + j := by omega
    subst e2
    have hl := hlen j hi6
    clear hlen
    generalize ps.flatMap Pk.c = L at *
    rcases (show j = 0 ∨ j = 1 ∨ j = 2 ∨ j = 3 ∨ j = 4 ∨ j = 5 by omega) with rfl | rfl | rfl | rfl | rfl | rfl <;>
      simp [List.getElem?_set, Pk.c] <;> (try simp only [Nat.add_zero] at hl) <;> (try omega) <;> (try (simp at hl; omega))
  · have hr : ((ps.set k x).flatMap Pk.c)[i / 6 * 6 + i % 6]? = (ps.flatMap Pk.c)[i / 6 * 6 + i % 6]? := by
      rw [flat_atP _ _ _ hi6, flat_atP _ _ _ hi6, List.getElem?_set_ne (by omega)]
    rw [← e] at hr
    rw [hr]
    rw [List.getElem?_set_ne (by omega)]
    rw [List.getElem?_set_ne (by omega)]
    rw [List.getElem?_set_ne (by omega)]
    rw [List.getElem?_set_ne (by omega)]
    rw [List.getElem?_set_ne (by omega)]
    rw [List.getElem?_set_ne (by omega)]
theorem RBk.put {T : TypeId} {w : World} {g k : Nat} {ps : List Pk} {ro ol co : Int} {x : Pk} (h : RBk T w g ps ro ol co) (hk : k < 8) :
    RBk T (((((((w.setCell ⟨g, k * 6, none⟩ (.int .i64 x.wi)).setCell ⟨g, k * 6 + 1, none⟩ (.int .i64 x.ti)).setCell ⟨g, k * 6 + 2, none⟩ (.int .i64 x.la)).setCell ⟨g, k * 6 + 3, none⟩ (.int .i64 x.si)).setCell ⟨g, k * 6 + 4, none⟩ (.bool x.ky)).setCell ⟨g, k * 6 + 5, none⟩ (.bool x.en))) g (ps.set k x) ro ol co := by
  refine ⟨by rw [List.length_set, h.1], ?_⟩
  have h6 := (((((h.2.set_ (k * 6) (.int .i64 x.wi)).set_ (k * 6 + 1) (.int .i64 x.ti)).set_ (k * 6 + 2) (.int .i64 x.la)).set_ (k * 6 + 3) (.int .i64 x.si)).set_ (k * 6 + 4) (.bool x.ky)).set_ (k * 6 + 5) (.bool x.en)
  have hl : (ps.flatMap Pk.c).length = 48 := by rw [flat_lenP, h.1]
  simp only [List.setIfInBounds_toArray] at h6
  unfold bufC at h6 ⊢
  rw [List.set_append_left _ _ (by omega), List.set_append_left _ _ (by simp only [List.length_set]; omega), List.set_append_left _ _ (by simp only [List.length_set]; omega), List.set_append_left _ _ (by simp only [List.length_set]; omega), List.set_append_left _ _ (by simp only [List.length_set]; omega), List.set_append_left _ _ (by simp only [List.length_set]; omega), set6 (by rw [h.1]; exact hk)] at h6
  exact h6
end Go.Proofs.YthbkmnladaneaaaGreatDoor
