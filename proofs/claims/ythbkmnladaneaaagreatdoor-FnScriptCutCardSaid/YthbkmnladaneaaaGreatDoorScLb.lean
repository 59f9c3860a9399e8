/-
  Scripts: the laws' own helpers: completeLines, lastLine.
  Conditions: the text has at most 500 bytes; the output ends with a whole line.
-/
import Derived.Test.YthbkmnladaneaaaGreatDoorScLa
import Derived.Test.YthbkmnladaneaaaGreatDoorScQ
namespace Go.Proofs.YthbkmnladaneaaaGreatDoor
open Go.RowKit
set_option linter.unusedVariables false
set_option linter.unusedSimpArgs false
set_option maxRecDepth 100000

set_option maxHeartbeats 1000000 in
theorem compl_any (t : ByteArray) (w : World) (ht : t.size ≤ 500) :
    Calls Tryz.prog 14 #[.string t] w fun e w' => ∃ k, CutAt t.data.toList k ∧ e = .returned (sV (t.data.toList.take k)) ∧ w' = w := by
  have hl := byte_len t
  go_enter Tryz.func14, Tryz.ntmps14
  go_wp2
  go_loopw [3] (fun i wr => ∃ k : Nat, k ≤ t.size ∧ i = .int .i64 k ∧ Hid (∀ j, k ≤ j → j < t.data.toList.length → t.data.toList[j]? ≠ some 10) ∧ wr = w) (fun i _ => (intOf i).toNat)
  case atStart => exact ⟨t.size, by omega, rfl, Lib.hid (fun j h1 h2 => absurd h2 (by omega)), rfl⟩
  case round =>
    obtain ⟨k, hk, rfl, hno, rfl⟩ := hrel
    cases k with
    | zero =>
      go_wp2
      go_ret
      exact ⟨0, ⟨by omega, Or.inl rfl, fun j h1 h2 => hno.out j h1 h2⟩, rfl, rfl⟩
    | succ m =>
      have hlt : m < t.size := by omega
      have hb := byte_at t m hlt
      have hm1 : ((m + 1 : Nat) : Int) = (m : Int) + 1 := rfl
      rw [hm1]
      by_cases hc : t[m] = 10
      · have e0 : ((t[m].toNat : Int) == 10) = true := by rw [hc]; rfl
        rw [hc] at hb
        have hex := sV_extr t 0 (m + 1)
        have hfin : CutAt t.data.toList (m + 1) := ⟨by omega, Or.inr ⟨m, rfl, hb⟩, hno.out⟩
        clear hb hc hno
        go_wp2
        go_ret
        exact ⟨m + 1, hfin, rfl, rfl⟩
      · have e0 : ((t[m].toNat : Int) == 10) = false := by
          rw [beq_eq_false_iff_ne]; intro e; apply hc; apply UInt8.toNat_inj.1; exact Int.ofNat_inj.1 e
        have hno2 := Lib.hid (show ∀ j, m ≤ j → j < t.data.toList.length → t.data.toList[j]? ≠ some 10 by
          intro j h1 h2
          by_cases e : j = m
          · subst e; rw [hb]; intro e; exact hc (Option.some.inj e)
          · exact hno.out j (by omega) h2)
        clear hb hc
        go_wp2
        go_roundw
        case rel => exact ⟨m, by omega, by go_num, hno2, trivial⟩
        case measure => first | (simp [intOf]; done) | (simp [intOf]; omega)

set_option maxHeartbeats 1000000 in
theorem last_any (y : ByteArray) (P q : List UInt8) (w : World) (hy : y.size ≤ 20000) (h : LastAt y.data.toList P q) :
    Calls Tryz.prog 15 #[.string y] w fun e w' => e = .returned (sV (q ++ [10])) ∧ w' = w := by
  have hl := byte_len y
  obtain ⟨he, hno, hat⟩ := h
  have hlen : y.size = P.length + q.length + 1 := by rw [← hl, he]; simp; omega
  have hdrop : y.data.toList.drop P.length = q ++ [10] := by rw [he]; simp
  go_enter Tryz.func15, Tryz.ntmps15
  go_wp2
  go_loopw [3] (fun i wr => ∃ k : Nat, P.length ≤ k ∧ k ≤ P.length + q.length ∧ i = .int .i64 ((k : Int) - 1) ∧ wr = w) (fun i _ => (intOf i + 1).toNat)
  case atStart => exact ⟨P.length + q.length, by omega, by omega, congrArg (Value.int IntKind.i64) (by omega), rfl⟩
  case round =>
    obtain ⟨k, hk0, hk1, rfl, rfl⟩ := hrel
    cases k with
    | zero =>
      have hP : P.length = 0 := by omega
      have hv : Value.string y = sV (q ++ [10]) := by rw [← hdrop, hP, List.drop_zero]; rfl
      go_wp2
      go_ret
      exact ⟨by rw [← hv]; rfl, rfl⟩
    | succ m =>
      have hlt : m < y.size := by omega
      have hb := byte_at y m hlt
      have hm1 : ((m + 1 : Nat) : Int) - 1 = (m : Int) := by omega
      rw [hm1]
      by_cases hP : P.length = m + 1
      · have hc : y[m] = 10 := by
          rcases hat with h0 | ⟨m', h1, h2⟩
          · omega
          · have : m' = m := by omega
            subst this
            rw [hb] at h2
            exact Option.some.inj h2
        have e0 : ((y[m].toNat : Int) == 10) = true := by rw [hc]; rfl
        have hex := sV_extr y (m + 1) y.size
        rw [List.take_of_length_le (by omega), ← hP, hdrop, hP, hlen, hP] at hex
        clear hb hc hno hat he hdrop
        go_wp2
        go_ret
        first
          | exact ⟨rfl, rfl⟩
          | exact ⟨by rw [← hex]; rfl, rfl⟩
      · have hc : y[m] ≠ 10 := by
          intro e
          refine hno m (by omega) (by omega) ?_
          rw [hb, e]
        have e0 : ((y[m].toNat : Int) == 10) = false := by
          rw [beq_eq_false_iff_ne]; intro e; apply hc; apply UInt8.toNat_inj.1; exact Int.ofNat_inj.1 e
        clear hb hc hno hat he hdrop
        go_wp2
        go_roundw
        case rel => exact ⟨m, by omega, by omega, by go_num, trivial⟩
        case measure => first | (simp [intOf]; done) | (simp [intOf]; omega)
end Go.Proofs.YthbkmnladaneaaaGreatDoor
