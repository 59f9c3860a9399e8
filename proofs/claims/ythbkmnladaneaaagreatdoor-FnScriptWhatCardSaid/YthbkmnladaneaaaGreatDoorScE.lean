/-
  Scripts, plain: when a packet may be put; a line keeps the state valid; how long an answer is.
  Conditions: the state is valid (scOk).
-/
import Derived.Test.YthbkmnladaneaaaGreatDoorScT
import Derived.Test.YthbkmnladaneaaaGreatDoorScC
namespace Go.Proofs.YthbkmnladaneaaaGreatDoor
open Go.RowKit
set_option linter.unusedVariables false
set_option linter.unusedSimpArgs false
set_option maxRecDepth 100000

theorem pTo_app {xs : List Pk} {p : Pk} (h : pTo xs xs.length) : pTo (xs ++ [p]) xs.length := by
  intro j x hj hx
  rw [List.getElem?_append_left hj] at hx
  have h1 := h j x hj hx
  refine ⟨h1.1, fun y h0 hy => h1.2 y h0 ?_⟩
  rwa [List.getElem?_append_left (by omega)] at hy
theorem putOk_iff {s : Sc} {p : Pk} (hok : scOk s) : putOkB s p = true ↔ RpIn 4 s.co s.xs p := by
  have hl := scOk_len hok
  obtain ⟨hrg, -⟩ := hok
  have hps : psOk s.xs := hrg.2.2.2.2.1
  have hlast : s.xs.getLast? = s.xs[s.xs.length - 1]? := List.getLast?_eq_getElem?
  unfold putOkB RpIn
  simp only [Bool.and_eq_true, decide_eq_true_eq]
  constructor
  · rintro ⟨⟨hpk, hla⟩, hco⟩
    refine ⟨hrg, ⟨by simp; omega, ?_⟩, hco⟩
    have e : (s.xs ++ [p]).length = s.xs.length + 1 := by simp
    rw [e]
    refine pTo_succ (pTo_app hps.2) (x := p) (by simp) (by unfold pkOk; omega) ?_
    intro y h0 hy
    rw [List.getElem?_append_left (by omega), ← hlast] at hy
    rw [hy] at hla
    simp only [Bool.and_eq_true, decide_eq_true_eq] at hla
    exact hla
  · rintro ⟨-, ⟨-, hp⟩, hco⟩
    have e : (s.xs ++ [p]).length = s.xs.length + 1 := by simp
    rw [e] at hp
    obtain ⟨h1, h2⟩ := hp s.xs.length p (by omega) (by simp)
    unfold pkOk at h1
    refine ⟨⟨by omega, ?_⟩, hco⟩
    cases hy : s.xs.getLast? with
    | none => rfl
    | some y =>
      have h0 : 0 < s.xs.length := by
        rcases Nat.eq_zero_or_pos s.xs.length with h | h
        · rw [List.length_eq_zero_iff.1 h] at hy; cases hy
        · exact h
      have := h2 y h0 (by rw [List.getElem?_append_left (by omega), ← hlast]; exact hy)
      simp only [Bool.and_eq_true, decide_eq_true_eq]
      exact this
theorem putS_yes {s : Sc} {ky : Bool} {a b : Int} (hok : scOk s) (h : RpIn 4 s.co s.xs ⟨a, b, 0, 100, ky, false⟩) : putS s ky a b = ({ s with co := s.co + 1, xs := putL 4 s.xs ⟨a, b, 0, 100, ky, false⟩ }, wOk) := if_pos ((putOk_iff hok).2 h)
theorem putS_no {s : Sc} {ky : Bool} {a b : Int} (hok : scOk s) (h : ¬ RpIn 4 s.co s.xs ⟨a, b, 0, 100, ky, false⟩) : putS s ky a b = (s, wNo) := if_neg (fun hh => h ((putOk_iff hok).1 hh))
theorem putS_ok {s : Sc} {ky : Bool} {a b : Int} (hok : scOk s) : scOk (putS s ky a b).1 := by
  by_cases h : RpIn 4 s.co s.xs ⟨a, b, 0, 100, ky, false⟩
  · rw [putS_yes hok h]
    have h1 := put_ok h
    obtain ⟨-, h2, h3, h4⟩ := hok
    exact ⟨h1, h2, by show s.nx ≤ s.co + 1; omega, h4⟩
  · rw [putS_no hok h]; exact hok
theorem newS_ok {s : Sc} (hok : scOk s) : scOk (newS s) := by
  have hl := scOk_len hok
  have hk := keyI_bd s.xs
  obtain ⟨h1, h2⟩ := hok
  unfold newS oldI
  split
  · exact ⟨h1, by show 0 ≤ s.co - (s.xs.length : Int) + keyI s.xs; omega, by show s.co - (s.xs.length : Int) + keyI s.xs ≤ s.co; omega, by show (0 : Int) ≤ 0; omega, by show (0 : Int) ≤ 999999; omega⟩
  · exact ⟨h1, by show 0 ≤ s.co; omega, by show s.co ≤ s.co; omega, by show (0 : Int) ≤ 0; omega, by show (0 : Int) ≤ 999999; omega⟩
theorem readS_1 (s : Sc) : (readS s).1 = (takeS s).1 := by
  unfold readS
  cases h : takeS s with
  | mk s' t => cases t <;> rfl
theorem readS_ok {s : Sc} (hok : scOk s) : scOk (readS s).1 := by rw [readS_1]; exact take_ok hok
theorem lineS_ok {s : Sc} {l : List UInt8} (hok : scOk s) : scOk (lineS s l).1 := by
  unfold lineS
  split
  · split
    · exact readS_ok hok
    · split
      · exact newS_ok hok
      · split <;> exact hok
  · split
    · split
      · exact putS_ok hok
      · exact hok
    · split <;> exact hok
  · exact hok
theorem runS_ok : ∀ {ls : List (List UInt8)} {s : Sc}, scOk s → scOk (runS s ls).1
  | [], s, h => h
  | l :: ls, s, h => runS_ok (ls := ls) (lineS_ok h)
theorem dI_len7 (n : Int) : (dI n).length ≤ 7 := decL_len _
theorem lineS_len (s : Sc) (l : List UInt8) : (lineS s l).2.length ≤ 20 := by
  have h1 := fun n => dI_len7 n
  have hw : ∀ a b, (wideA a b).length ≤ 20 := by
    intro a b
    unfold wideA
    split
    · have := h1 (wideNum a b); simp [wWideB]; omega
    · exact Nat.le_of_ble_eq_true rfl
  have hp : ∀ ky a b, (putS s ky a b).2.length ≤ 20 := by
    intro ky a b
    unfold putS
    split <;> exact Nat.le_of_ble_eq_true rfl
  unfold lineS
  split
  · split
    · unfold readS
      split
      · rename_i p _; have := h1 p.wi; simp [wGotB]; omega
      · exact Nat.le_of_ble_eq_true rfl
      · rename_i s' _; have := h1 s'.lo; simp [lostA, wLostB]; omega
    · split
      · exact Nat.le_of_ble_eq_true rfl
      · split
        · have := h1 (oldI s); have := h1 s.co; simp [wRingB]; omega
        · exact Nat.le_of_ble_eq_true rfl
  · split
    · split
      · exact hp _ _ _
      · exact Nat.le_of_ble_eq_true rfl
    · split
      · split
        · exact hw _ _
        · exact Nat.le_of_ble_eq_true rfl
      · exact Nat.le_of_ble_eq_true rfl
  · exact Nat.le_of_ble_eq_true rfl
theorem runS_len : ∀ (ls : List (List UInt8)) (s : Sc), (runS s ls).2.length ≤ 21 * ls.length
  | [], s => by simp [runS]
  | l :: ls, s => by
    have h1 := lineS_len s l
    have h2 := runS_len ls (lineS s l).1
    simp only [runS, List.length_append, List.length_cons, List.length_nil]
    omega
end Go.Proofs.YthbkmnladaneaaaGreatDoor
