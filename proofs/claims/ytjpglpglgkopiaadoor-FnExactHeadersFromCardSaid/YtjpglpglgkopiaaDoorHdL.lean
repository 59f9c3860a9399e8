/-
  All numbers of a slice are bytes: the reference's test.
  Conditions: the slice's memory.
-/
import Derived.Test.YtjpglpglgkopiaaDoorHdK
import Derived.Test.YtjpglpglgkopiaaDoorHdF
namespace Go.Proofs.YtjpglpglgkopiaaDoor
open Go.RowKit
set_option linter.unusedVariables false
set_option linter.unusedSimpArgs false

/-- All are bytes. -/
def allB (zs : List Int) : Prop := bOk zs 0 zs.length
open Classical in
noncomputable def allBB (zs : List Int) : Bool := decide (allB zs)
theorem allBB_true {zs : List Int} : allBB zs = true ↔ allB zs := by unfold allBB; exact @decide_eq_true_iff _ (Classical.propDecidable _)
theorem allBB_false {zs : List Int} : allBB zs = false ↔ ¬ allB zs := by unfold allBB; exact @decide_eq_false_iff_not _ (Classical.propDecidable _)

set_option maxHeartbeats 2000000 in
theorem l16_any (n c : Nat) (A : Option Addr) (zs : List Int) (w : World) (hz : Ints w w.heap.size A n zs) (hn : n ≤ 1099511627776) :
    Calls Tryd.prog 35 #[.slice A n c] w fun e w' => e = .returned (.bool (allBB zs)) ∧ Below w.heap.size w w' := by
  have HL := Lib.hid hz.len
  go_enter Tryd.func35, Tryd.ntmps35
  go_wp2
  go_loopw [3] (fun i wr => ∃ k : Nat, k ≤ n ∧ i = .int .i64 k ∧ Hid (bOk zs 0 k) ∧ Below w.heap.size w wr) (fun i _ => n - (intOf i).toNat)
  case atStart => exact ⟨0, by omega, rfl, Lib.hid (fun j hj => absurd hj (by omega)), Below.refl _ _⟩
  case round =>
    obtain ⟨k, hk, rfl, hok, hB⟩ := hrel
    by_cases hlt : k < n
    · have e0 : decide (k < n) = true := by simpa using hlt
      obtain ⟨b, off, rfl, hb, hcell⟩ := hz.at_ (by omega)
      have hc := hcell k hlt
      replace hc := (hB.cell (p := ⟨b, off + k, none⟩) hb).trans hc
      obtain ⟨z, hzk⟩ : ∃ z, zs[k]?.getD 0 = z := ⟨_, rfl⟩
      rw [hzk] at hc
      have HZ := Lib.hid (show zs[0 + k]?.getD 0 = z by rw [Nat.zero_add]; exact hzk)
      clear hcell hz hzk
      by_cases hin : isB z
      · have HN := Lib.hid (bOk_succ hok.out (by rw [HZ.out]; exact hin))
        obtain ⟨i0, i1⟩ := hin
        have d0 : decide (0 ≤ z) = true := by simpa using i0
        have d1 : decide (z ≤ 255) = true := by simpa using i1
        go_wp2_with (first | (go_at_call 50; go_in))
        go_roundw
        case rel => exact ⟨k + 1, by omega, by go_num, HN, hB⟩
        case measure => simp [intOf]; omega
      · have HF := Lib.hid (allBB_false.2 fun h => hin (by have := h k (by rw [HL.out]; exact hlt); rwa [HZ.out] at this))
        unfold isB at hin
        by_cases i0 : 0 ≤ z
        · have i1 : ¬ z ≤ 255 := by omega
          have d0 : decide (0 ≤ z) = true := by simpa using i0
          have d1 : decide (z ≤ 255) = false := by simpa using i1
          clear hin
          go_wp2_with (first | (go_at_call 50; go_in))
          go_ret
          exact ⟨by rw [HF.out]; rfl, hB⟩
        · have d0 : decide (0 ≤ z) = false := by simpa using i0
          clear hin
          go_wp2_with (first | (go_at_call 50; go_in))
          go_ret
          exact ⟨by rw [HF.out]; rfl, hB⟩
    · obtain rfl : k = n := by omega
      have HT := Lib.hid (allBB_true.2 (by unfold allB; rw [HL.out]; exact hok.out))
      clear hok
      go_wp2
      go_ret
      exact ⟨by rw [HT.out]; rfl, hB⟩
end Go.Proofs.YtjpglpglgkopiaaDoor
