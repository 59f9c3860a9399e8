/-
  Scripts, plain: what is behind the last newline is ignored; an unknown word changes nothing.
  No condition.
-/
import Derived.Test.YthbkmnladaneaaaGreatDoorScE
namespace Go.Proofs.YthbkmnladaneaaaGreatDoor
open Go.RowKit
set_option linter.unusedVariables false
set_option linter.unusedSimpArgs false
set_option maxRecDepth 100000

theorem splitL_app (c : UInt8) : ∀ a b : List UInt8, splitL c (a ++ c :: b) = splitL c a ++ splitL c b
  | [], b => by simp [splitL]
  | x :: a, b => by
    have ih := splitL_app c a b
    rw [List.cons_append]
    by_cases h : x = c
    · rw [splitL, if_pos h, ih, splitL, if_pos h]; rfl
    · obtain ⟨y, r, e⟩ : ∃ y r, splitL c a = y :: r := by
        cases hh : splitL c a with
        | nil => exact absurd hh (splitL_ne c a)
        | cons y r => exact ⟨y, r, rfl⟩
      rw [splitL, if_neg h, ih, splitL, if_neg h, e]
      rfl
/-- k is the place behind the last newline. -/
structure CutAt (t : List UInt8) (k : Nat) : Prop where
  le : k ≤ t.length
  at_ : k = 0 ∨ ∃ m, k = m + 1 ∧ t[m]? = some 10
  no : ∀ j, k ≤ j → j < t.length → t[j]? ≠ some 10
theorem split_pre {a : List UInt8} : splitL 10 (a ++ [10]) = splitL 10 a ++ [[]] := splitL_app 10 a []
theorem take_snoc {t : List UInt8} {m : Nat} (h : t[m]? = some 10) : t.take (m + 1) = t.take m ++ [10] := by
  rw [List.take_add_one, h]; rfl
theorem split_at1 {t : List UInt8} {m : Nat} (h : t[m]? = some 10) : splitL 10 t = splitL 10 (t.take m) ++ splitL 10 (t.drop (m + 1)) := by
  obtain ⟨hlt, he⟩ := List.getElem?_eq_some_iff.1 h
  rw [← splitL_app]
  congr 1
  conv => lhs; rw [← List.take_append_drop m t, List.drop_eq_getElem_cons hlt, he]
theorem cut_lines {t : List UInt8} {k : Nat} (h : CutAt t k) : (splitL 10 (t.take k)).dropLast = (splitL 10 t).dropLast := by
  obtain ⟨hle, hat, hno⟩ := h
  rcases hat with rfl | ⟨m, rfl, hm⟩
  · have := splitL_last (l := t) (c := 10) (fr := 0) hno
    rw [List.drop_zero] at this
    rw [this, List.take_zero]
    rfl
  · rw [take_snoc hm, split_pre, split_at1 hm, splitL_last hno, List.dropLast_concat, List.dropLast_concat]
theorem exec_short {t : List UInt8} (h : ¬ 500 < t.length) : execL t = (runS sc0 (splitL 10 t).dropLast).2 ++ lostA (runS sc0 (splitL 10 t).dropLast).1 ++ [10] := if_neg h
theorem exec_cut {t : List UInt8} {k : Nat} (h : CutAt t k) (hl : ¬ 500 < t.length) : execL (t.take k) = execL t := by
  rw [exec_short hl, exec_short (by rw [List.length_take]; omega), cut_lines h]
/-- What an output is: whole lines, and a last one. -/
structure LastAt (y P q : List UInt8) : Prop where
  eq_ : y = P ++ (q ++ [10])
  no : ∀ j, P.length ≤ j → j < P.length + q.length → y[j]? ≠ some 10
  at_ : P.length = 0 ∨ ∃ m, P.length = m + 1 ∧ y[m]? = some 10
theorem runS_end : ∀ (ls : List (List UInt8)) (s : Sc), (runS s ls).2 = [] ∨ ∃ r, (runS s ls).2 = r ++ [10]
  | [], s => Or.inl rfl
  | l :: ls, s => by
    right
    rcases runS_end ls (lineS s l).1 with h | ⟨r, h⟩
    · exact ⟨(lineS s l).2, by rw [runS, h, List.append_nil]⟩
    · exact ⟨(lineS s l).2 ++ [10] ++ r, by rw [runS, h]; simp⟩
theorem decF_no : ∀ (f u : Nat), (10 : UInt8) ∉ decF f u
  | 0, _ => by simp [decF]
  | f + 1, u => by
    have ih := decF_no f (u / 10)
    have hd : ∀ v, v < 10 → (10 : UInt8) ≠ UInt8.ofNat (48 + v) := by
      intro v hv
      rcases (show v = 0 ∨ v = 1 ∨ v = 2 ∨ v = 3 ∨ v = 4 ∨ v = 5 ∨ v = 6 ∨ v = 7 ∨ v = 8 ∨ v = 9 by omega) with e | e | e | e | e | e | e | e | e | e <;> subst e <;> decide
    unfold decF
    split
    · rename_i h
      intro hm
      exact hd u h (List.mem_singleton.1 hm)
    · intro hm
      rcases List.mem_append.1 hm with h | h
      · exact ih h
      · exact hd (u % 10) (by omega) (List.mem_singleton.1 h)
theorem lostA_no (s : Sc) : (10 : UInt8) ∉ lostA s := by
  intro hm
  rcases List.mem_append.1 hm with h | h
  · revert h; decide
  · exact decF_no 7 _ h
theorem exec_last {t : List UInt8} (hl : ¬ 500 < t.length) : LastAt (execL t) (runS sc0 (splitL 10 t).dropLast).2 (lostA (runS sc0 (splitL 10 t).dropLast).1) := by
  have he := exec_short hl
  have hr := runS_end (splitL 10 t).dropLast sc0
  have hn := lostA_no (runS sc0 (splitL 10 t).dropLast).1
  rw [List.append_assoc] at he
  generalize (runS sc0 (splitL 10 t).dropLast).2 = P at *
  generalize lostA (runS sc0 (splitL 10 t).dropLast).1 = q at *
  refine ⟨he, ?_, ?_⟩
  · intro j h1 h2 h3
    rw [he, List.getElem?_append_right h1, List.getElem?_append_left (by omega)] at h3
    exact hn (List.mem_of_getElem? h3)
  · rcases hr with e | ⟨r, e⟩
    · exact Or.inl (by rw [e]; rfl)
    · refine Or.inr ⟨r.length, by rw [e]; simp, ?_⟩
      rw [he, e, List.append_assoc, List.getElem?_append_right (Nat.le_refl _), Nat.sub_self]
      rfl
def wZzz : List UInt8 := [122, 122, 122, 10]
theorem zzz_lines {t : List UInt8} {k : Nat} (h : CutAt t k) : (splitL 10 (t.take k ++ wZzz)).dropLast = (splitL 10 (t.take k)).dropLast ++ [[122, 122, 122]] := by
  obtain ⟨hle, hat, hno⟩ := h
  rcases hat with rfl | ⟨m, rfl, hm⟩
  · rw [List.take_zero]; rfl
  · have e1 : t.take m ++ [10] ++ wZzz = t.take m ++ 10 :: wZzz := by simp
    rw [take_snoc hm, split_pre, e1, splitL_app, List.dropLast_concat]
    show (splitL 10 (t.take m) ++ [[122, 122, 122], []]).dropLast = _
    rw [show (splitL 10 (t.take m) ++ [[122, 122, 122], []]) = (splitL 10 (t.take m) ++ [[122, 122, 122]]) ++ [[]] by simp, List.dropLast_concat]
theorem line_zzz (s : Sc) : lineS s [122, 122, 122] = (s, wWhat) := rfl
/-- One more line with an unknown word: 'what', and nothing else has turned. -/
theorem exec_what {t : List UInt8} {k : Nat} (h : CutAt t k) (hl : ¬ 500 < t.length + 4) :
    execL (t.take k ++ wZzz) = (runS sc0 (splitL 10 (t.take k)).dropLast).2 ++ (wWhat ++ [10]) ++ (lostA (runS sc0 (splitL 10 (t.take k)).dropLast).1 ++ [10]) := by
  rw [exec_short (by rw [List.length_append, List.length_take]; simp [wZzz]; omega), zzz_lines h, runS_snoc]
  generalize runS sc0 (splitL 10 (List.take k t)).dropLast = r
  rw [line_zzz]
  simp [List.append_assoc]
theorem exec_len {t : List UInt8} : (execL t).length ≤ 20000 := by
  by_cases hl : 500 < t.length
  · rw [execL, if_pos hl]; decide
  · rw [exec_short hl]
    have h1 := runS_len (splitL 10 t).dropLast sc0
    have h2 := splitL_len 10 t
    have h3 : (lostA (runS sc0 (splitL 10 t).dropLast).1).length ≤ 12 := by
      have := dI_len7 (runS sc0 (splitL 10 t).dropLast).1.lo
      simp [lostA, wLostB]; omega
    have h4 : (splitL 10 t).dropLast.length = (splitL 10 t).length - 1 := List.length_dropLast
    rw [List.length_append, List.length_append, List.length_singleton]
    omega
theorem exec_pos (t : List UInt8) : 0 < (execL t).length := by
  by_cases hl : 500 < t.length
  · rw [execL, if_pos hl]; decide
  · rw [exec_short hl]; simp; omega
end Go.Proofs.YthbkmnladaneaaaGreatDoor
