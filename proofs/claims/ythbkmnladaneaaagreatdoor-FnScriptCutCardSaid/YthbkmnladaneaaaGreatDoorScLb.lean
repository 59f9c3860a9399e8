/-
  Scripts: the laws' own helpers: completeLines, lastLine.
  Conditions: the text has at most 500 bytes; the output ends with a whole line.
-/
import Derived.Test.YthbkmnladaneaaaGreatDoorScLa
import Derived.Test.YthbkmnladaneaaaGreatDoorScQ
import Derived.Test.YthbkmnladaneaaaGreatDoorScD
namespace Go.Proofs.YthbkmnladaneaaaGreatDoor
open Go.RowKit
set_option linter.unusedVariables false
set_option linter.unusedSimpArgs false
set_option maxRecDepth 100000

set_option maxHeartbeats 1000000 in
theorem compl_any (t : ByteArray) (w : World) (ht : t.size ≤ 500) :
    Calls Tryz.prog 14 #[.string t] w fun e w' => ∃ k, CutAt t.data.toList k ∧ e = .returned (sV (t.data.toList.take k)) ∧ w' = w := by
  have hl := byte_len t
  go_enter Tryz.func14, Tryz.ntmps14
  go_wp2
  go_loopw [3] (fun i wr => ∃ k : Nat, k ≤ t.size ∧ i = .int .i64 k ∧ Hid (∀ j, k ≤ j → j < t.data.toList.length → t.data.toList[j]? ≠ some 10) ∧ wr = w) (fun i _ => (intOf i).toNat)
  case atStart => exact ⟨t.size, by omega, rfl, Lib.hid (fun j h1 h2 => absurd h2 (by omega)), rfl⟩
  case round =>
    obtain ⟨k, hk, rfl, hno, rfl⟩ := hrel
    cases k with
    | zero =>
      go_wp2
      go_ret
      exact ⟨0, ⟨by omega, Or.inl rfl, fun j h1 h2 => hno.out j h1 h2⟩, rfl, rfl⟩
    | succ m =>
      have hlt : m < t.size := by omega
      have hb := byte_at t m hlt
      have hm1 : ((m + 1 : Nat) : Int) = (m : Int) + 1 := rfl
      rw [hm1]
      by_cases hc : t[m] = 10
      · have e0 : ((t[m].toNat : Int) == 10) = true := by rw [hc]; rfl
        rw [hc] at hb
        have hex := sV_extr t 0 (m + 1)
        have hfin : CutAt t.data.toList (m + 1) := ⟨by omega, Or.inr ⟨m, rfl, hb⟩, hno.out⟩
        clear hb hc hno
        go_wp2
        go_ret
        exact ⟨m + 1, hfin, rfl, rfl⟩
      · have e0 : ((t[m].toNat : Int) == 10) = false := by
          rw [beq_eq_false_iff_ne]; intro e; apply hc; apply UInt8.toNat_inj.1; exact Int.ofNat_inj.1 e
        have hno2 := Lib.hid (show ∀ j, m ≤ j → j < t.data.toList.length → t.data.toList[j]? ≠ some 10 by
          intro j h1 h2
          by_cases e : j = m
          · subst e; rw [hb]; intro e; exact hc (Option.some.inj e)
          · exact hno.out j (by omega) h2)
        clear hb hc
        go_wp2
        go_roundw
        case rel => exact ⟨m, by omega, by go_num, hno2, trivial⟩
        case measure => first | (simp [intOf]; done) | (simp [intOf]; omega)

set_option maxHeartbeats 1000000 in
theorem last_any (y : ByteArray) (P q : List UInt8) (w : World) (hy : y.size ≤ 20000) (h : LastAt y.data.toList P q) :
    Calls Tryz.prog 15 #[.string y] w fun e w' => e = .returned (sV (q ++ [10])) ∧ w' = w := by
  have hl := byte_len y
  obtain ⟨he, hno, hat⟩ := h
  have hlen : y.size = P.length + q.length + 1 := by rw [← hl, he]; simp; omega
  have hdrop : y.data.toList.drop P.length = q ++ [10] := by rw [he]; simp
  go_enter Tryz.func15, Tryz.ntmps15
  go_wp2
  go_loopw [3] (fun i wr => ∃ k : Nat, P.length ≤ k ∧ k ≤ P.length + q.length ∧ i = .int .i64 ((k : Int) - 1) ∧ wr = w) (fun i _ => (intOf i + 1).toNat)
  case atStart => exact ⟨P.length + q.length, by omega, by omega, congrArg (Value.int IntKind.i64) (by omega), rfl⟩
  case round =>
    obtain ⟨k, hk0, hk1, rfl, rfl⟩ := hrel
    cases k with
    | zero =>
      have hP : P.length = 0 := by omega
      have hv : Value.string y = sV (q ++ [10]) := by rw [← hdrop, hP, List.drop_zero]; rfl
      go_wp2
      go_ret
      exact ⟨by rw [← hv]; rfl, rfl⟩
    | succ m =>
      have hlt : m < y.size := by omega
      have hb := byte_at y m hlt
      have hm1 : ((m + 1 : Nat) : Int) - 1 = (m : Int) := by omega
      rw [hm1]
      by_cases hP : P.length = m + 1
      · have hc : y[m] = 10 := by
          rcases hat with h0 | ⟨m', h1, h2⟩
          · omega
          · have : m' = m := by omega
            subst this
            rw [hb] at h2
            exact Option.some.inj h2
        have e0 : ((y[m].toNat : Int) == 10) = true := by rw [hc]; rfl
        have hex := sV_extr y (m + 1) y.size
        rw [List.take_of_length_le (by omega), ← hP, hdrop, hP, hlen, hP] at hex
        clear hb hc hno hat he hdrop
        go_wp2
        go_ret
        first
          | exact ⟨rfl, rfl⟩
          | exact ⟨by rw [← hex]; rfl, rfl⟩
      · have hc : y[m] ≠ 10 := by
          intro e
          refine hno m (by omega) (by omega) ?_
          rw [hb, e]
        have e0 : ((y[m].toNat : Int) == 10) = false := by
          rw [beq_eq_false_iff_ne]; intro e; apply hc; apply UInt8.toNat_inj.1; exact Int.ofNat_inj.1 e
        clear hb hc hno hat he hdrop
        go_wp2
        go_roundw
        case rel => exact ⟨m, by omega, by omega, by go_num, trivial⟩
        case measure => first | (simp [intOf]; done) | (simp [intOf]; omega)
theorem extr_pre (a b : List UInt8) : (⟨(a ++ b).toArray⟩ : ByteArray).extract 0 a.length = ⟨a.toArray⟩ := by
  have h := sV_extr ⟨(a ++ b).toArray⟩ 0 a.length
  rw [List.drop_zero, show (⟨(a ++ b).toArray⟩ : ByteArray).data.toList = a ++ b from rfl, List.take_left] at h
  exact Value.string.inj h
theorem size_mk (a : List UInt8) : (⟨a.toArray⟩ : ByteArray).size = a.length := by show a.toArray.size = _; simp
/-- The texts of the law on unknown words, and how they hang together. -/
theorem what_bytes {t : List UInt8} {k : Nat} (h : CutAt t k) (hl : ¬ 500 < t.length + 4) : ∃ (zB sB yB eB pB mB rB : ByteArray) (zn pn qn : Nat) (P q : List UInt8),
    sV (t.take k) = .string zB ∧ zB.size = zn ∧ zn ≤ 500 ∧ zB ++ ⟨#[122, 122, 122, 10]⟩ = sB ∧ execL zB.data.toList = yB.data.toList ∧ execL sB.data.toList = rB.data.toList ∧ LastAt yB.data.toList P q ∧ sV (q ++ [10]) = .string eB ∧
    yB.size = pn + qn ∧ eB.size = qn ∧ pn + qn ≤ 20000 ∧ yB.extract 0 pn = pB ∧ pB.size = pn ∧ pB ++ ⟨#[119, 104, 97, 116, 10]⟩ = mB ∧ mB.size = pn + 5 ∧ mB ++ eB = rB := by
  have hz : ¬ 500 < (t.take k).length := by rw [List.length_take]; omega
  have hla := exec_last hz
  have hw := exec_what h hl
  have hel := exec_len (t := t.take k)
  generalize t.take k = z at *
  generalize (runS sc0 (splitL 10 z).dropLast).2 = P at *
  generalize lostA (runS sc0 (splitL 10 z).dropLast).1 = q at *
  have hn : (execL z).length = P.length + (q.length + 1) := by rw [hla.eq_]; simp
  refine ⟨⟨z.toArray⟩, ⟨(z ++ wZzz).toArray⟩, ⟨(execL z).toArray⟩, ⟨(q ++ [10]).toArray⟩, ⟨P.toArray⟩, ⟨(P ++ (wWhat ++ [10])).toArray⟩, ⟨(execL (z ++ wZzz)).toArray⟩, z.length, P.length, q.length + 1, P, q, rfl, size_mk _, by omega, ?_, rfl, rfl, hla, rfl, ?_, ?_, by omega, ?_, size_mk _, ?_, ?_, ?_⟩
  · exact str_app z wZzz
  · rw [size_mk, hn]
  · rw [size_mk]; simp
  · rw [hla.eq_]; exact extr_pre _ _
  · exact str_app P (wWhat ++ [10])
  · rw [size_mk]; simp [wWhat]
  · rw [hw]; exact str_app _ _
end Go.Proofs.YthbkmnladaneaaaGreatDoor
