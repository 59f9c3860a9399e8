/-
  Scripts: the number of a word, in the reference and in the program (there it panics where the word is none).
  Conditions: the word has at most 500 bytes.
-/
import Derived.Test.YthbkmnladaneaaaGreatDoorScP
import Derived.WalkLawsBesides
namespace Go.Proofs.YthbkmnladaneaaaGreatDoor
open Go.RowKit
set_option linter.unusedVariables false
set_option linter.unusedSimpArgs false
set_option maxRecDepth 100000

theorem byte_snoc (s : ByteArray) (k : Nat) (h : k < s.size) : s.data.toList.take (k + 1) = s.data.toList.take k ++ [s[k]] := by
  rw [List.take_succ_eq_append_getElem (by simpa using h)]; rfl
theorem byte_at (s : ByteArray) (k : Nat) (h : k < s.size) : s.data.toList[k]? = some s[k] := by
  rw [List.getElem?_eq_getElem (by simpa using h)]; rfl
theorem byte_len (s : ByteArray) : s.data.toList.length = s.size := Array.length_toList
theorem numB_len {l : List UInt8} (h : l.length < 1 ∨ 5 < l.length) : numB l = false := by
  rcases h with h | h
  · unfold numB; rw [decide_eq_false (show ¬ 1 ≤ l.length by omega)]; simp only [Bool.false_and]
  · unfold numB; rw [decide_eq_false (show ¬ l.length ≤ 5 by omega)]; simp only [Bool.false_and, Bool.and_false]
theorem numB_zero {l : List UInt8} (h1 : 1 < l.length) (h : l[0]? = some 48) : numB l = false := by simp [numB, h1, h]
theorem numB_bad {l : List UInt8} {k : Nat} {c : UInt8} (h : l[k]? = some c) (hc : digB c = false) : numB l = false := by
  have : l.all digB = false := by
    rw [List.all_eq_false]; exact ⟨c, List.mem_of_getElem? h, by simp [hc]⟩
  simp [numB, this]
theorem numB_good {l : List UInt8} (h1 : 1 ≤ l.length) (h5 : l.length ≤ 5) (hz : ¬ (1 < l.length ∧ l[0]? = some 48)) (h : ∀ j c, j < l.length → l[j]? = some c → digB c = true) : numB l = true := by
  have ha : l.all digB = true := by
    rw [List.all_eq_true]; intro x hx
    obtain ⟨j, hj⟩ := List.mem_iff_getElem?.1 hx
    exact h j x (by have := List.getElem?_eq_some_iff.1 hj; exact this.1) hj
  have hz' : (decide (1 < l.length) && l[0]? == some 48) = false := by
    rw [Bool.and_eq_false_iff]
    by_cases h' : 1 < l.length
    · right
      rw [beq_eq_false_iff_ne]
      exact fun e => hz ⟨h', e⟩
    · left; simp [h']
  simp only [numB, ha, hz', decide_eq_true h1, decide_eq_true h5]; rfl
theorem dig_yes {c : UInt8} (h : 48 ≤ (c.toNat : Int)) (h' : (c.toNat : Int) ≤ 57) : digB c = true := by
  simp [digB]; omega
theorem dig_no {c : UInt8} (h : (c.toNat : Int) < 48 ∨ 57 < (c.toNat : Int)) : digB c = false := by
  simp [digB]; omega
theorem num_eq {s : ByteArray} {v : Int} (h : numI s.data.toList = v) : Ending.returned (.int .i64 v) = .returned (.int .i64 (numI s.data.toList)) := by rw [h]

/-- The first test on a word: too short, too long, or a nought ahead. -/
def wordBad (s : ByteArray) : Prop := s.size < 1 ∨ 5 < s.size ∨ (1 < s.size ∧ s.data.toList[0]? = some 48)
theorem wordBad_num {s : ByteArray} (h : wordBad s) : numB s.data.toList = false := by
  have hl := byte_len s
  rcases h with h | h | ⟨h, h'⟩
  · exact numB_len (Or.inl (by omega))
  · exact numB_len (Or.inr (by omega))
  · exact numB_zero (by omega) h'

set_option maxHeartbeats 1000000 in
theorem snum_any (s : ByteArray) (w : World) (hs : s.size ≤ 500) :
    Calls Tryz.prog 47 #[.string s] w fun e w' => e = .returned (.int .i64 (numI s.data.toList)) ∧ w = w' := by
  have hl := byte_len s
  by_cases h1 : 1 ≤ s.size
  · have d1 : decide (1 ≤ s.size) = true := by simpa using h1
    by_cases h5 : s.size ≤ 5
    · have d5 : decide (s.size ≤ 5) = true := by simpa using h5
      have hb0 := byte_at s 0 (by omega)
      by_cases hz : 1 < s.size ∧ s[0].toNat = 48
      · have hn : numB s.data.toList = false := numB_zero (by omega) (by rw [hb0]; exact congrArg some (UInt8.toNat_inj.1 hz.2))
        obtain ⟨hz1, hz2⟩ := hz
        go_enter Tryz.func47, Tryz.ntmps47
        go_wp2
        go_ret
        exact ⟨num_eq (numI_no hn), rfl⟩
      · have hz' : ¬ (1 < s.data.toList.length ∧ s.data.toList[0]? = some 48) := by
          rintro ⟨a, b⟩
          rw [hb0] at b
          exact hz ⟨by omega, by rw [Option.some.inj b]; rfl⟩
        have hz3 : (¬ 1 < s.size) ∨ (1 < s.size ∧ ((s[0].toNat : Int) == 48) = false) := by
          by_cases hs1 : 1 < s.size
          · right
            refine ⟨hs1, ?_⟩
            rw [beq_eq_false_iff_ne]
            intro e
            exact hz ⟨hs1, by omega⟩
          · exact Or.inl hs1
        rcases hz3 with d3 | ⟨d3, z3⟩
        all_goals
          go_enter Tryz.func47, Tryz.ntmps47
          go_wp2
          go_loop [3, 4] (fun n i => ∃ k : Nat, k ≤ s.size ∧ (∀ j c, j < k → s.data.toList[j]? = some c → digB c = true) ∧ i = .int .i64 k ∧ n = .int .i64 (valL (s.data.toList.take k))) (fun _ i => s.size - (intOf i).toNat)
          case atStart => exact ⟨0, Nat.zero_le _, fun j c h => absurd h (by omega), rfl, rfl⟩
          case round =>
            obtain ⟨k, hk, hd, rfl, rfl⟩ := hrel
            have hv := valL_take (l := s.data.toList) (k := k) (by omega) hd
            have hp : (10 : Int) ^ k ≤ 100000 := by
              rcases (show k = 0 ∨ k = 1 ∨ k = 2 ∨ k = 3 ∨ k = 4 ∨ k = 5 by omega) with e | e | e | e | e | e <;> rw [e] <;> decide
            have hv1 := hv.1
            have hv2 : valL (s.data.toList.take k) < 100000 := by omega
            clear hv hp
            by_cases hlt : k < s.size
            · have hb := byte_at s k hlt
              have hsn := valL_snoc (s.data.toList.take k) s[k]
              rw [← byte_snoc s k hlt] at hsn
              have hc : s[k].toNat < 256 := s[k].toNat_lt
              by_cases c1 : 48 ≤ (s[k].toNat : Int)
              · by_cases c2 : (s[k].toNat : Int) ≤ 57
                · have hdk := dig_yes c1 c2
                  have HD : Hid (∀ j c, j < k + 1 → s.data.toList[j]? = some c → digB c = true) := by
                    refine Lib.hid ?_
                    intro j c hj hjc
                    by_cases e : j = k
                    · subst e; rw [hb] at hjc; rw [← Option.some.inj hjc]; exact hdk
                    · exact hd j c (by omega) hjc
                  have HS : Hid (valL (s.data.toList.take (k + 1)) = 10 * valL (s.data.toList.take k) + ((s[k].toNat : Int) - 48)) := Lib.hid hsn
                  clear hsn hb
                  go_wp2
                  go_round
                  case rel => exact ⟨k + 1, by omega, HD.out, by go_num, by rw [HS.out]⟩
                  case measure => simp [intOf]; omega
                · have hn := numB_bad hb (dig_no (Or.inr (by omega)))
                  clear hsn hb
                  go_wp2
                  go_ret
                  exact ⟨num_eq (numI_no hn), rfl⟩
              · have hn := numB_bad hb (dig_no (Or.inl (by omega)))
                clear hsn hb
                go_wp2
                go_ret
                exact ⟨num_eq (numI_no hn), rfl⟩
            · have hk' : k = s.size := by omega
              subst hk'
              have hn := numB_good (l := s.data.toList) (by omega) (by omega) hz' fun j c hj => hd j c (by omega)
              have hv : valL (s.data.toList.take s.size) = numI s.data.toList := by rw [numI_yes hn, List.take_of_length_le (by omega)]
              go_wp2
              go_ret
              exact ⟨by first | rfl | rw [hv], rfl⟩
    · have hn := numB_len (l := s.data.toList) (Or.inr (by omega))
      go_enter Tryz.func47, Tryz.ntmps47
      go_wp2
      go_ret
      exact ⟨num_eq (numI_no hn), rfl⟩
  · have hn := numB_len (l := s.data.toList) (Or.inl (by omega))
    go_enter Tryz.func47, Tryz.ntmps47
    go_wp2
    go_ret
    exact ⟨num_eq (numI_no hn), rfl⟩

/-- What a word that is no number throws: the answer in the shape of 'malformed'. -/
def thrown (a : List UInt8) : Value := .iface 60 (.agg #[.string ⟨a.toArray⟩])
def NumRet (s : ByteArray) (w : World) (e : Ending) (w' : World) : Prop :=
  (numB s.data.toList = true ∧ e = .returned (.int .i64 (valL s.data.toList)) ∨ numB s.data.toList = false ∧ e = .panicked [{ v := thrown wNo, recovered := false }]) ∧ w = w'
theorem emp_no {s : ByteArray} (h : 1 ≤ s.size) : s.toList.isEmpty = false := by
  have hl := byte_len s
  rw [ByteArray.toList_eq]
  cases hl' : s.data.toList with
  | nil => rw [hl'] at hl; simp at hl; omega
  | cons _ _ => rfl
theorem emp_ne {s : ByteArray} (h : 1 ≤ s.size) : ¬ s.toList = [] := by
  have := emp_no h
  intro e
  rw [e] at this
  exact absurd this (by decide)
theorem emp_yes {s : ByteArray} (h : ¬ 1 ≤ s.size) : s.toList.isEmpty = true := by
  have hl := byte_len s
  rw [ByteArray.toList_eq]
  cases hl' : s.data.toList with
  | nil => rfl
  | cons _ _ => rw [hl'] at hl; simp at hl; omega
theorem emp_nil {s : ByteArray} (h : ¬ 1 ≤ s.size) : s.toList = [] := List.isEmpty_iff.1 (emp_yes h)
theorem numRet_yes {s : ByteArray} {w : World} (h : numB s.data.toList = true) : NumRet s w (.returned (.int .i64 (valL s.data.toList))) w := ⟨Or.inl ⟨h, rfl⟩, rfl⟩
theorem numRet_no {s : ByteArray} {w : World} (h : numB s.data.toList = false) : NumRet s w (.panicked [{ v := thrown wNo, recovered := false }]) w := ⟨Or.inr ⟨h, rfl⟩, rfl⟩
set_option maxHeartbeats 1000000 in
theorem inum_any (s : ByteArray) (w : World) (hs : s.size ≤ 500) :
    Calls Tryz.prog 33 #[.string s] w fun e w' => NumRet s w e w' := by
  have hl := byte_len s
  by_cases h1 : 1 ≤ s.size
  · have d1 := emp_no h1
    have d1' := emp_ne h1
    by_cases h5 : s.size ≤ 5
    · have d5 : decide (s.size ≤ 5) = true := by simpa using h5
      have hb0 := byte_at s 0 (by omega)
      by_cases hz : 1 < s.size ∧ s[0].toNat = 48
      · have hn : numB s.data.toList = false := numB_zero (by omega) (by rw [hb0]; exact congrArg some (UInt8.toNat_inj.1 hz.2))
        obtain ⟨hz1, hz2⟩ := hz
        go_enter Tryz.func33, Tryz.ntmps33
        go_wp2
        exact ⟨rfl, numRet_no hn⟩
      · have hz' : ¬ (1 < s.data.toList.length ∧ s.data.toList[0]? = some 48) := by
          rintro ⟨a, b⟩
          rw [hb0] at b
          exact hz ⟨by omega, by rw [Option.some.inj b]; rfl⟩
        have hz3 : ((s[0].toNat : Int) == 48) = false ∨ (¬ 1 < s.size ∧ ((s[0].toNat : Int) == 48) = true) := by
          by_cases hs0 : ((s[0].toNat : Int) == 48) = true
          · right
            refine ⟨fun hs1 => hz ⟨hs1, ?_⟩, hs0⟩
            have := of_decide_eq_true hs0
            omega
          · left; simpa using hs0
        rcases hz3 with z3 | ⟨d3, z3⟩
        all_goals
          go_enter Tryz.func33, Tryz.ntmps33
          go_wp2
          go_loop [3, 26] (fun n i => ∃ k : Nat, k ≤ s.size ∧ (∀ j c, j < k → s.data.toList[j]? = some c → digB c = true) ∧ i = .int .i64 k ∧ n = .int .i64 (valL (s.data.toList.take k))) (fun _ i => s.size - (intOf i).toNat)
          case atStart => exact ⟨0, Nat.zero_le _, fun j c h => absurd h (by omega), rfl, rfl⟩
          case round =>
            obtain ⟨k, hk, hd, rfl, rfl⟩ := hrel
            have hv := valL_take (l := s.data.toList) (k := k) (by omega) hd
            have hp : (10 : Int) ^ k ≤ 100000 := by
              rcases (show k = 0 ∨ k = 1 ∨ k = 2 ∨ k = 3 ∨ k = 4 ∨ k = 5 by omega) with e | e | e | e | e | e <;> rw [e] <;> decide
            have hv1 := hv.1
            have hv2 : valL (s.data.toList.take k) < 100000 := by omega
            clear hv hp
            by_cases hlt : k < s.size
            · have hb := byte_at s k hlt
              have hsn := valL_snoc (s.data.toList.take k) s[k]
              rw [← byte_snoc s k hlt] at hsn
              have hc : s[k].toNat < 256 := s[k].toNat_lt
              by_cases c1 : 48 ≤ (s[k].toNat : Int)
              · by_cases c2 : (s[k].toNat : Int) ≤ 57
                · have hdk := dig_yes c1 c2
                  have HD : Hid (∀ j c, j < k + 1 → s.data.toList[j]? = some c → digB c = true) := by
                    refine Lib.hid ?_
                    intro j c hj hjc
                    by_cases e : j = k
                    · subst e; rw [hb] at hjc; rw [← Option.some.inj hjc]; exact hdk
                    · exact hd j c (by omega) hjc
                  have HS : Hid (valL (s.data.toList.take (k + 1)) = 10 * valL (s.data.toList.take k) + ((s[k].toNat : Int) - 48)) := Lib.hid hsn
                  clear hsn hb
                  go_wp2
                  go_round
                  case rel => exact ⟨k + 1, by omega, HD.out, by go_num, by rw [HS.out]⟩
                  case measure => simp [intOf]; omega
                · have hn := numB_bad hb (dig_no (Or.inr (by omega)))
                  clear hsn hb
                  go_wp2
                  exact ⟨rfl, numRet_no hn⟩
              · have hn := numB_bad hb (dig_no (Or.inl (by omega)))
                clear hsn hb
                go_wp2
                exact ⟨rfl, numRet_no hn⟩
            · have hk' : k = s.size := by omega
              subst hk'
              have hn := numB_good (l := s.data.toList) (by omega) (by omega) hz' fun j c hj => hd j c (by omega)
              have hv : s.data.toList.take s.size = s.data.toList := List.take_of_length_le (by omega)
              rw [hv]
              go_wp2
              go_ret
              exact numRet_yes hn
    · have hn := numB_len (l := s.data.toList) (Or.inr (by omega))
      go_enter Tryz.func33, Tryz.ntmps33
      go_wp2
      exact ⟨rfl, numRet_no hn⟩
  · have hn := numB_len (l := s.data.toList) (Or.inl (by omega))
    have d1 := emp_yes h1
    have d1' := emp_nil h1
    go_enter Tryz.func33, Tryz.ntmps33
    go_wp2
    exact ⟨rfl, numRet_no hn⟩
end Go.Proofs.YthbkmnladaneaaaGreatDoor
