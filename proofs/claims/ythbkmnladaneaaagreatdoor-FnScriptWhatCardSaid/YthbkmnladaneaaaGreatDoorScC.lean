/-
  Scripts: what a line and a script are cut into, plain: splitL against the shelf's pieces and against places.
  No condition.
-/
import Derived.Test.YthbkmnladaneaaaGreatDoorScN
import Derived.Lib.SplitLaws
namespace Go.Proofs.YthbkmnladaneaaaGreatDoor
open Go.RowKit
set_option linter.unusedVariables false
set_option linter.unusedSimpArgs false
set_option maxRecDepth 100000

theorem extr_list (s : ByteArray) (a b : Nat) : (s.extract a b).data.toList = (s.data.toList.take b).drop a := by
  rw [ByteArray.data_extract, Array.toList_extract]
  simp [List.extract, List.drop_take]
/-- From a place on: no blank up to k, one at k. -/
theorem splitL_at {l : List UInt8} {c : UInt8} {fr k : Nat} (hk : l[k]? = some c) (hfr : fr ≤ k) (hno : ∀ j, fr ≤ j → j < k → l[j]? ≠ some c) :
    splitL c (l.drop fr) = (l.take k).drop fr :: splitL c (l.drop (k + 1)) := by
  have hlt := (List.getElem?_eq_some_iff.1 hk).1
  have e : l.drop fr = (l.take k).drop fr ++ c :: l.drop (k + 1) := by
    have h1 : l.take k ++ l.drop k = l := List.take_append_drop k l
    have h2 : l.drop k = c :: l.drop (k + 1) := by
      rw [List.drop_eq_getElem_cons hlt, (List.getElem?_eq_some_iff.1 hk).2]
    conv => lhs; rw [← h1, h2]
    rw [List.drop_append_of_le_length (by rw [List.length_take]; omega)]
  rw [e]
  refine splitL_here c _ _ ?_
  intro hm
  obtain ⟨j, hj⟩ := List.mem_iff_getElem?.1 hm
  rw [List.getElem?_drop, List.getElem?_take] at hj
  split at hj
  · exact hno (fr + j) (by omega) (by omega) hj
  · cases hj
theorem splitL_last {l : List UInt8} {c : UInt8} {fr : Nat} (hno : ∀ j, fr ≤ j → j < l.length → l[j]? ≠ some c) : splitL c (l.drop fr) = [l.drop fr] := by
  refine splitL_none c _ ?_
  intro hm
  obtain ⟨j, hj⟩ := List.mem_iff_getElem?.1 hm
  rw [List.getElem?_drop] at hj
  exact hno (fr + j) (by omega) (List.getElem?_eq_some_iff.1 hj).1 hj
theorem splitL_len (c : UInt8) : ∀ l : List UInt8, (splitL c l).length ≤ l.length + 1
  | [] => by simp [splitL]
  | b :: l => by
    have ih := splitL_len c l
    unfold splitL
    split
    · simp; omega
    · split
      · simp
      · rename_i x r e
        rw [e] at ih
        simp at ih ⊢
        omega
theorem splitK_splitL (c : UInt8) : ∀ l : List UInt8, Lib.splitK [c] 0 (l.count c) l = splitL c l
  | [] => by simp [Lib.splitK, splitL]
  | b :: l => by
    have ih := splitK_splitL c l
    by_cases h : b = c
    · subst h
      have hix : Lib.index (b :: l) [b] = 0 := by rw [Lib.index]; simp [List.isPrefixOf]
      rw [List.count_cons_self, Lib.splitK, hix, splitL, if_pos rfl, ← ih]
      simp
    · have hp : ([c] : List UInt8).isPrefixOf (b :: l) = false := by simp [List.isPrefixOf, Ne.symm h]
      have hix : Lib.index (b :: l) [c] = if Lib.index l [c] == -1 then -1 else Lib.index l [c] + 1 := by rw [Lib.index, hp]; simp
      rw [List.count_cons_of_ne (by simpa using h), splitL, if_neg h, ← ih]
      cases hk : l.count c with
      | zero => simp [Lib.splitK]
      | succ k =>
        by_cases hm : Lib.index l [c] = -1
        · rw [Lib.splitK, Lib.splitK, hix, hm]; simp
        · have hge := Lib.index_ge l [c]
          obtain ⟨j, hj⟩ : ∃ j : Nat, Lib.index l [c] = j := ⟨(Lib.index l [c]).toNat, by omega⟩
          have h1 : ((j : Int) == -1) = false := by first | (simp; done) | (simp; omega)
          have h2 : ((j : Int) + 1 == -1) = false := by first | (simp; done) | (simp; omega)
          have h3 : ((j : Int) + 1).toNat = j + 1 := by omega
          rw [Lib.splitK, Lib.splitK, hix, hj]
          simp [h1, h2, h3]
/-- The shelf's pieces at a separator of one byte. -/
theorem splitB_splitL (s : ByteArray) (c : UInt8) : (Lib.splitB ⟨#[c]⟩ 0 (Lib.countB s ⟨#[c]⟩) s).map (·.data.toList) = splitL c s.data.toList := by
  rw [Lib.splitB_data]
  have e : Lib.countB s ⟨#[c]⟩ = s.data.toList.count c := Lib.count_one c _
  rw [e]
  exact splitK_splitL c _
end Go.Proofs.YthbkmnladaneaaaGreatDoor
