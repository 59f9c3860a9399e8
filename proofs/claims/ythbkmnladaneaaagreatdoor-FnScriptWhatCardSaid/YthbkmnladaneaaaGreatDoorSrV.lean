/-
  Wide numbers and serial numbers: what the functions of chapter 1 give.
  Conditions: none but the arguments' being integers, as each theorem states.
-/
import Derived.Test.YthbkmnladaneaaaGreatDoorRows
import Derived.Test.YthbkmnladaneaaaGreatDoorLib
import Derived.Test.YthbkmnladaneaaaGreatDoorOwn
namespace Go.Proofs.YthbkmnladaneaaaGreatDoor
open Go.RowKit
set_option linter.unusedVariables false

/-- The number near another one with a serial number. -/
def wideNum (near a : Int) : Int := near + ((a - near % 65536 + 98304) % 65536 - 32768)
/-- Are the arguments of WideOf valid? -/
def WideArgs (near a : Int) : Prop := 0 ≤ near ∧ near ≤ 999999 ∧ 0 ≤ a ∧ a < 65536
def WideOk (near a : Int) : Prop := WideArgs near a ∧ 0 ≤ wideNum near a ∧ wideNum near a ≤ 999999

open Classical in
/-- What WideOf gives. -/
noncomputable def wideR (near a : Int) : Int × Bool := if WideOk near a then (wideNum near a, true) else (0, false)

theorem wideR_ok {near a : Int} (h : WideOk near a) : wideR near a = (wideNum near a, true) := if_pos h
theorem wideR_no {near a : Int} (h : ¬ WideOk near a) : wideR near a = (0, false) := if_neg h

def WideRet (near a : Int) (w : World) (e : Ending) (w' : World) : Prop := e = .returned (.tuple #[.int .i64 (wideR near a).1, .bool (wideR near a).2]) ∧ w = w'

theorem wideRet_ok {near a : Int} {w : World} (h : WideOk near a) : WideRet near a w (.returned (.tuple #[.int .i64 (wideNum near a), .bool true])) w := ⟨by rw [wideR_ok h], rfl⟩
theorem wideRet_no {near a : Int} {w : World} (h : ¬ WideOk near a) : WideRet near a w (.returned (.tuple #[.int .i64 0, .bool false])) w := ⟨by rw [wideR_no h], rfl⟩
theorem ret_pair {k : IntKind} {a b : Int} {c : Bool} (h : a = b) : Ending.returned (.tuple #[.int k a, .bool c]) = .returned (.tuple #[.int k b, .bool c]) := by rw [h]

theorem wide_yes {near a : Int} {w : World} (v : Int) (h0 : 0 ≤ near) (h1 : near ≤ 999999) (h2 : 0 ≤ a) (h3 : a < 65536) (hv : v = wideNum near a) (h4 : 0 ≤ v) (h5 : v ≤ 999999) :
    WideRet near a w (.returned (.tuple #[.int .i64 v, .bool true])) w := by
  subst hv
  exact wideRet_ok ⟨⟨h0, h1, h2, h3⟩, h4, h5⟩
theorem wide_no {near a : Int} {w : World} (v : Int) (hv : v = wideNum near a) (h : near < 0 ∨ 999999 < near ∨ a < 0 ∨ 65536 ≤ a ∨ v < 0 ∨ 999999 < v) :
    WideRet near a w (.returned (.tuple #[.int .i64 0, .bool false])) w := by
  subst hv
  refine wideRet_no ?_
  unfold WideOk WideArgs
  omega

theorem rest_any (n : Int) (w : World) (h0 : -4611686018427387904 ≤ n) (h1 : n ≤ 4611686018427387904) :
    Calls Tryz.prog 70 #[.int .i64 n] w fun e w' => e = .returned (.int .i64 (n % 65536)) ∧ w = w' := by
  by_cases hn : 0 ≤ n
  · go_enter Tryz.func70, Tryz.ntmps70
    go_wp2
    go_ret
    exact ⟨ret_int (by omega), rfl⟩
  · have hm : n.tmod 65536 = -((-n) % 65536) := by rw [tmod_eq_if, if_neg hn]
    go_enter Tryz.func70, Tryz.ntmps70
    go_wp2
    go_ret
    exact ⟨ret_int (by omega), rfl⟩

set_option maxHeartbeats 1000000 in
theorem impl_wide (near a : Int) (w : World) :
    Calls Tryz.prog 80 #[.int .i64 near, .int .i64 a] w (WideRet near a w) := by
  by_cases h0 : 0 ≤ near
  · have d0 : decide (0 ≤ near) = true := by simpa using h0
    by_cases h1 : near ≤ 999999
    · have d1 : decide (near ≤ 999999) = true := by simpa using h1
      by_cases h2 : 0 ≤ a
      · have d2 : decide (0 ≤ a) = true := by simpa using h2
        by_cases h3 : a < 65536
        · have d3 : decide (a < 65536) = true := by simpa using h3
          go_enter Tryz.func80, Tryz.ntmps80
          go_wp2
          all_goals go_ret2
          all_goals (try simp only [Bool.not_eq_true', Bool.not_eq_false', decide_eq_true_eq, decide_eq_false_iff_not] at *)
          all_goals first
            | exact wide_yes _ h0 h1 h2 (by omega) (by unfold wideNum; omega) (by omega) (by omega)
            | exact wide_no _ rfl (by unfold wideNum; omega)
        · have d3 : decide (a < 65536) = false := by simpa using h3
          go_enter Tryz.func80, Tryz.ntmps80
          go_wp2
          all_goals go_ret2
          all_goals exact wide_no _ rfl (by omega)
      · have d2 : decide (0 ≤ a) = false := by simpa using h2
        go_enter Tryz.func80, Tryz.ntmps80
        go_wp2
        all_goals go_ret2
        all_goals exact wide_no _ rfl (by omega)
    · have d1 : decide (near ≤ 999999) = false := by simpa using h1
      go_enter Tryz.func80, Tryz.ntmps80
      go_wp2
      all_goals go_ret2
      all_goals exact wide_no _ rfl (by omega)
  · have d0 : decide (0 ≤ near) = false := by simpa using h0
    go_enter Tryz.func80, Tryz.ntmps80
    go_wp2
    all_goals go_ret2
    all_goals exact wide_no _ rfl (by omega)

set_option maxHeartbeats 1000000 in
theorem spec_wide (near a : Int) (w : World) :
    Calls Tryz.prog 52 #[.int .i64 near, .int .i64 a] w (WideRet near a w) := by
  by_cases h0 : 0 ≤ near
  · have d0 : decide (0 ≤ near) = true := by simpa using h0
    by_cases h1 : near ≤ 999999
    · have d1 : decide (near ≤ 999999) = true := by simpa using h1
      by_cases h2 : 0 ≤ a
      · have d2 : decide (0 ≤ a) = true := by simpa using h2
        by_cases h3 : a ≤ 65535
        · have d3 : decide (a ≤ 65535) = true := by simpa using h3
          go_enter Tryz.func52, Tryz.ntmps52
          go_wp2_with (first
            | (go_at_call 70; refine (rest_any _ _ (by omega) (by omega)).mono ?_; rintro e w' ⟨rfl, rfl⟩)
            | go_in)
          all_goals go_ret2
          all_goals (try simp only [Bool.not_eq_true', Bool.not_eq_false', decide_eq_true_eq, decide_eq_false_iff_not] at *)
          all_goals first
            | exact wide_yes _ h0 h1 h2 (by omega) (by unfold wideNum; omega) (by omega) (by omega)
            | exact wide_no _ rfl (by unfold wideNum; omega)
        · have d3 : decide (a ≤ 65535) = false := by simpa using h3
          go_enter Tryz.func52, Tryz.ntmps52
          go_wp2
          all_goals go_ret2
          all_goals exact wide_no _ rfl (by omega)
      · have d2 : decide (0 ≤ a) = false := by simpa using h2
        go_enter Tryz.func52, Tryz.ntmps52
        go_wp2
        all_goals go_ret2
        all_goals exact wide_no _ rfl (by omega)
    · have d1 : decide (near ≤ 999999) = false := by simpa using h1
      go_enter Tryz.func52, Tryz.ntmps52
      go_wp2
      all_goals go_ret2
      all_goals exact wide_no _ rfl (by omega)
  · have d0 : decide (0 ≤ near) = false := by simpa using h0
    go_enter Tryz.func52, Tryz.ntmps52
    go_wp2
    all_goals go_ret2
    all_goals exact wide_no _ rfl (by omega)


/-! ### Both forms of the contract -/
theorem impl_wide_ok {near a : Int} (h : WideOk near a) (w : World) : Calls Tryz.prog 80 #[.int .i64 near, .int .i64 a] w fun e w' => e = .returned (.tuple #[.int .i64 (wideNum near a), .bool true]) ∧ w = w' :=
  (impl_wide near a w).mono fun e w' hh => by obtain ⟨h1, h2⟩ := hh; rw [wideR_ok h] at h1; exact ⟨h1, h2⟩
theorem impl_wide_no {near a : Int} (h : ¬ WideOk near a) (w : World) : Calls Tryz.prog 80 #[.int .i64 near, .int .i64 a] w fun e w' => e = .returned (.tuple #[.int .i64 0, .bool false]) ∧ w = w' :=
  (impl_wide near a w).mono fun e w' hh => by obtain ⟨h1, h2⟩ := hh; rw [wideR_no h] at h1; exact ⟨h1, h2⟩
theorem spec_wide_ok {near a : Int} (h : WideOk near a) (w : World) : Calls Tryz.prog 52 #[.int .i64 near, .int .i64 a] w fun e w' => e = .returned (.tuple #[.int .i64 (wideNum near a), .bool true]) ∧ w = w' :=
  (spec_wide near a w).mono fun e w' hh => by obtain ⟨h1, h2⟩ := hh; rw [wideR_ok h] at h1; exact ⟨h1, h2⟩
theorem spec_wide_no {near a : Int} (h : ¬ WideOk near a) (w : World) : Calls Tryz.prog 52 #[.int .i64 near, .int .i64 a] w fun e w' => e = .returned (.tuple #[.int .i64 0, .bool false]) ∧ w = w' :=
  (spec_wide near a w).mono fun e w' hh => by obtain ⟨h1, h2⟩ := hh; rw [wideR_no h] at h1; exact ⟨h1, h2⟩
end Go.Proofs.YthbkmnladaneaaaGreatDoor
