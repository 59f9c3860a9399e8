/-
  Scripts: a wide number, in the reference.
  Conditions: the words' memory.
-/
import Derived.Test.YthbkmnladaneaaaGreatDoorScH
import Derived.BigQuiet
namespace Go.Proofs.YthbkmnladaneaaaGreatDoor
open Go.RowKit
set_option linter.unusedVariables false
set_option linter.unusedSimpArgs false
set_option maxRecDepth 100000

def wideW (a b : List UInt8) : List UInt8 := if numB a = true ∧ numB b = true then wideA (valL a) (valL b) else wNo
theorem num_yes {a : List UInt8} (h : 0 ≤ numI a) : numB a = true := by
  cases hh : numB a with
  | true => rfl
  | false => have := numI_no hh; omega
theorem wideW_yes {a b : List UInt8} (h : WideOk (numI a) (numI b)) : wideW a b = wWideB ++ dI (wideNum (numI a) (numI b)) := by
  have ha := num_yes h.1.1
  have hb := num_yes h.1.2.2.1
  unfold wideW wideA
  rw [if_pos ⟨ha, hb⟩]
  rw [numI_yes ha, numI_yes hb] at h ⊢
  unfold WideOk WideArgs at h
  rw [if_pos (by omega)]
theorem wideW_no {a b : List UInt8} (h : ¬ WideOk (numI a) (numI b)) : wideW a b = wNo := by
  unfold wideW
  split
  · rename_i hh
    rw [numI_yes hh.1, numI_yes hh.2] at h
    unfold WideOk WideArgs at h
    unfold wideA
    rw [if_neg (by omega)]
  · rfl
def StrRet (l : List UInt8) (w : World) (e : Ending) (w' : World) : Prop := e = .returned (.string ⟨l.toArray⟩) ∧ Below w.heap.size w w'
set_option maxHeartbeats 2000000 in
theorem swide_any (v0 : Value) (a b : List UInt8) (Aw : Option Addr) (cw : Nat) (w : World) (hw : Sl w w.heap.size 1 Aw 3 [v0, sV a, sV b]) (ha : a.length ≤ 500) (hb : b.length ≤ 500) :
    Calls Tryz.prog 40 #[.slice Aw 3 cw] w (StrRet (wideW a b ++ [10]) w) := by
  obtain ⟨bw, ow, rfl, hbw, hcw⟩ := hw.2 (by omega)
  have cw1 := hcw 1 _ rfl
  have cw2 := hcw 2 _ rfl
  unfold sV at cw1 cw2
  have HNA := Lib.hid (fun w => (snumL a w ha).mono fun e w' h => (⟨h.1, h.2.symm⟩ : e = .returned (.int .i64 (numI a)) ∧ w' = w))
  have HNB := Lib.hid (fun w => (snumL b w hb).mono fun e w' h => (⟨h.1, h.2.symm⟩ : e = .returned (.int .i64 (numI b)) ∧ w' = w))
  clear hcw hw
  by_cases h : WideOk (numI a) (numI b)
  · have HV := Lib.hid (fun w => (spec_wide_ok h w).mono fun e w' h' => (⟨h'.1, h'.2.symm⟩ : e = .returned (.tuple #[.int .i64 (wideNum (numI a) (numI b)), .bool true]) ∧ w' = w))
    have hz := h.2
    obtain ⟨l, hll⟩ : ∃ l, dI (wideNum (numI a) (numI b)) = l := ⟨_, rfl⟩
    have hl7 := dI_len7 (wideNum (numI a) (numI b))
    rw [hll] at hl7
    have HD := Lib.hid (fun w => sdec_any (wideNum (numI a) (numI b)) w (by omega) (by omega))
    rw [hll] at HD
    unfold DecRet at HD
    rw [wideW_yes h, hll]
    obtain ⟨m1, hm1⟩ : ∃ m1, wWideB ++ l = m1 := ⟨_, rfl⟩
    obtain ⟨m2, hm2⟩ : ∃ m2, m1 ++ [10] = m2 := ⟨_, rfl⟩
    have ap1 := app_str wWideB l m1 hm1
    have ap2 := app_str m1 [10] m2 hm2
    have hl1 : m1.length ≤ 20 := by rw [← hm1]; simp [wWideB]; omega
    have hq1 : ¬ 9223372036854775807 < 5 + l.length := by omega
    have hq2 : ¬ 9223372036854775807 < m1.length + 1 := by omega
    simp only [wWideB] at ap1
    rw [hm1, hm2]
    clear hm1 hm2 hll h
    generalize wideNum (numI a) (numI b) = z at *
    generalize numI a = na at *
    generalize numI b = nb at *
    go_enter Tryz.func40, Tryz.ntmps40
    go_wp2_with fail
    go_quiet (first | (go_at_call 47; first | with_reducible exact Calls.quiet_of_same (HNA.out _) | with_reducible exact Calls.quiet_of_same (HNB.out _)) | (go_at_call 52; exact Calls.quiet_of_same (HV.out _)))
    go_wp2_with (go_at_call 27; refine (HD.out _).mono ?_; rintro e w2 ⟨rfl, hb2⟩)
    go_ret
    exact ⟨rfl, (Below.drewN' (Below.refl _ _) _).trans (hb2.mono (Nat.le_refl _))⟩
  · have HV := Lib.hid (fun w => (spec_wide_no h w).mono fun e w' h' => (⟨h'.1, h'.2.symm⟩ : e = .returned (.tuple #[.int .i64 0, .bool false]) ∧ w' = w))
    rw [wideW_no h]
    clear h
    generalize numI a = na at *
    generalize numI b = nb at *
    go_enter Tryz.func40, Tryz.ntmps40
    go_wp2_with fail
    go_quiet (first | (go_at_call 47; first | with_reducible exact Calls.quiet_of_same (HNA.out _) | with_reducible exact Calls.quiet_of_same (HNB.out _)) | (go_at_call 52; exact Calls.quiet_of_same (HV.out _)))
    go_wp2
    go_ret
    exact ⟨rfl, Below.drewN' (Below.refl _ _) _⟩
end Go.Proofs.YthbkmnladaneaaaGreatDoor
