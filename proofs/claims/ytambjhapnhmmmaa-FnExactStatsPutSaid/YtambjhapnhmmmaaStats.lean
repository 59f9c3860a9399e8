/-
  Stats: what the functions of chapter 14 give.
  Conditions: as each theorem states them.
-/
import Derived.Laws.StructEq
import Derived.Test.YtambjhapnhmmmaaRows
import Derived.Test.YtambjhapnhmmmaaLib
import Derived.Test.YtambjhapnhmmmaaDraw
import Derived.Outline
import Derived.Deep.RegionLaw
namespace Go.Proofs.Ytambjhapnhmmmaa
open Go.RowKit
set_option linter.unusedVariables false
set_option linter.unusedSimpArgs false

/-- Are the stats valid? -/
def StOk (a b c d e : Int) : Prop := 0 ≤ a ∧ a ≤ 999999 ∧ 0 ≤ b ∧ b ≤ 999999 ∧ a ≤ b ∧ 1 ≤ c ∧ c ≤ 999999 ∧ 0 ≤ d ∧ d ≤ 3199968 ∧ -99999 ≤ e ∧ e ≤ 99999
instance (a b c d e : Int) : Decidable (StOk a b c d e) := by unfold StOk; infer_instance
def stB (a b c d e : Int) : Bool := decide (StOk a b c d e)

set_option maxHeartbeats 1000000 in
theorem istv_any (a b c d e : Int) (w : World) :
    Calls Try.prog 34 #[.agg #[.int .i64 a, .int .i64 b, .int .i64 c, .int .i64 d, .int .i64 e]] w fun x w' => x = .returned (.bool (stB a b c d e)) ∧ Below w.heap.size w w' := by
  go_enter Try.func34, Try.ntmps34
  go_wp2_with go_in
  all_goals
    go_ret
    exact ⟨ret_bool (by ((try simp only [decide_eq_true_eq, decide_eq_false_iff_not, Bool.not_eq_true', Bool.not_eq_false'] at *); unfold stB StOk; first | exact decide_eq_decide.2 (by omega) | exact (decide_eq_false (by omega)).symm | exact (decide_eq_true (by omega)).symm)), (by repeat (first | exact Below.refl _ _ | assumption | refine Below.setCell ?_ (by first | omega | (simp; done) | (simp; omega)) _ | refine Below.alloc ?_ (by first | omega | (simp; done) | (simp; omega)) _ | refine Below.drew ?_ | refine Below.drewN' ?_ _ | refine Below.trans ?_ (Below.mono (by assumption) (by first | omega | (simp; done) | (simp; omega)))))⟩

set_option maxHeartbeats 1000000 in
theorem sstv_any (a b c d e : Int) (w : World) :
    Calls Try.prog 46 #[.agg #[.int .i64 a, .int .i64 b, .int .i64 c, .int .i64 d, .int .i64 e]] w fun x w' => x = .returned (.bool (stB a b c d e)) ∧ Below w.heap.size w w' := by
  go_enter Try.func46, Try.ntmps46
  go_wp2_with go_in
  all_goals
    go_ret
    exact ⟨ret_bool (by ((try simp only [decide_eq_true_eq, decide_eq_false_iff_not, Bool.not_eq_true', Bool.not_eq_false'] at *); unfold stB StOk; first | exact decide_eq_decide.2 (by omega) | exact (decide_eq_false (by omega)).symm | exact (decide_eq_true (by omega)).symm)), (by repeat (first | exact Below.refl _ _ | assumption | refine Below.setCell ?_ (by first | omega | (simp; done) | (simp; omega)) _ | refine Below.alloc ?_ (by first | omega | (simp; done) | (simp; omega)) _ | refine Below.drew ?_ | refine Below.drewN' ?_ _ | refine Below.trans ?_ (Below.mono (by assumption) (by first | omega | (simp; done) | (simp; omega)))))⟩

/-- Are a number and two times valid? -/
def WtOk (a b c : Int) : Prop := 0 ≤ a ∧ a ≤ 999999 ∧ 0 ≤ b ∧ b ≤ 99999 ∧ 0 ≤ c ∧ c ≤ 99999
instance (a b c : Int) : Decidable (WtOk a b c) := by unfold WtOk; infer_instance
def wtB (a b c : Int) : Bool := decide (WtOk a b c)

set_option maxHeartbeats 1000000 in
theorem l14ok_any (a b c : Int) (w : World) : Calls Try.prog 47 #[.int .i64 a, .int .i64 b, .int .i64 c] w fun x w' => x = .returned (.bool (wtB a b c)) ∧ w = w' := by
  go_enter Try.func47, Try.ntmps47
  go_wp2_with go_in
  all_goals
    go_ret
    exact ⟨ret_bool (by ((try simp only [decide_eq_true_eq, decide_eq_false_iff_not, Bool.not_eq_true', Bool.not_eq_false'] at *); unfold wtB WtOk; first | exact decide_eq_decide.2 (by omega) | exact (decide_eq_false (by omega)).symm | exact (decide_eq_true (by omega)).symm)), rfl⟩

def wB (a : Int) : Bool := decide (0 ≤ a ∧ a ≤ 999999)
theorem wv_any (a : Int) (w : World) : Calls Try.prog 40 #[.int .i64 a] w fun x w' => x = .returned (.bool (wB a)) ∧ w = w' := by
  go_enter Try.func40, Try.ntmps40
  go_wp2
  all_goals
    go_ret
    exact ⟨ret_bool (by ((try simp only [decide_eq_true_eq, decide_eq_false_iff_not, Bool.not_eq_true', Bool.not_eq_false'] at *); unfold wB; first | exact decide_eq_decide.2 (by omega) | exact (decide_eq_false (by omega)).symm | exact (decide_eq_true (by omega)).symm)), rfl⟩
def tB (b c : Int) : Bool := decide (0 ≤ b ∧ b ≤ 99999 ∧ 0 ≤ c ∧ c ≤ 99999)
theorem tv_any (b c : Int) (w : World) : Calls Try.prog 67 #[.agg #[.int .i64 b, .int .i64 c]] w fun x w' => x = .returned (.bool (tB b c)) ∧ w' = w.alloc (.cells #[.int .i64 b, .int .i64 c] 64) := by
  go_enter Try.func67, Try.ntmps67
  go_wp2_with go_in
  all_goals
    go_ret
    exact ⟨ret_bool (by ((try simp only [decide_eq_true_eq, decide_eq_false_iff_not, Bool.not_eq_true', Bool.not_eq_false'] at *); unfold tB; first | exact decide_eq_decide.2 (by omega) | exact (decide_eq_false (by omega)).symm | exact (decide_eq_true (by omega)).symm)), rfl⟩
theorem wt_eq (a b c : Int) : wtB a b c = (wB a && tB b c) := by
  unfold wtB wB tB WtOk
  rw [← Bool.decide_and]
  exact decide_eq_decide.2 (by omega)

set_option maxHeartbeats 2000000 in
theorem newArr_any (a b c : Int) (w : World) : Calls Try.prog 48 #[.int .i64 a, .int .i64 b, .int .i64 c] w fun x w' => x = .returned (.tuple #[.agg #[.int .i64 b, .int .i64 c, .int .i64 a], .bool (wtB a b c)]) ∧ Below w.heap.size w w' := by
  cases h0 : wB a
  · have e0 : wtB a b c = false := by rw [wt_eq, h0]; rfl
    have hw := fun w => wv_any a w
    rw [h0] at hw
    rw [e0]
    clear e0
    go_enter Try.func48, Try.ntmps48
    go_wp2_with fail
    refine wp_region_held_drew (S := fun w' => w'.cell? ⟨w.heap.size + 1, 0, none⟩ = some (.int .i64 b) ∧ w'.cell? ⟨w.heap.size + 1, 1, none⟩ = some (.int .i64 c) ∧ w'.cell? ⟨w.heap.size + 1, 2, none⟩ = some (.int .i64 a)) (by kernel_rfl) ?_ (fun hHeld => ?_)
    · exact ⟨by go_simp, by go_simp, by go_simp⟩
    refine wpAnyH_take (i := 0) (v := ?_) rfl (by kernel_rfl) (by kernel_rfl) (by kernel_rfl) (fun _ _ _ h => h) (Or.inl ⟨by rfl, ?_⟩) (by assumption) ?_
    rotate_left
    · (intro w hSw; (try dsimp only at hSw); go_simp; try with_reducible rfl)
    refine wpAnyH_take (i := 1) (v := ?_) rfl (by kernel_rfl) (by kernel_rfl) (by kernel_rfl) (fun _ _ _ h => h) (Or.inl ⟨by rfl, ?_⟩) (by assumption) ?_
    rotate_left
    · (intro w hSw; (try dsimp only at hSw); go_simp; try with_reducible rfl)
    refine wpAnyH_ready (rs := [2]) (by kernel_rfl) (by simp) ?_
    refine AllReadyH.cons rfl (fun K hK => ?_) AllReadyH.nil
    go_simp
    refine (hw _).mono ?_
    rintro e w' ⟨rfl, rfl⟩
    go_wp2_with fail
    refine hK.out _ _ ?_ (fun hHeld => ?_)
    · (try dsimp only)
      exact ⟨by go_simp, by go_simp, by go_simp⟩
    clear hK K
    refine wpAnyH_take (i := 3) (v := ?_) rfl (by kernel_rfl) (by kernel_rfl) (by kernel_rfl) (fun _ _ _ h => h) (Or.inl ⟨by rfl, ?_⟩) (by assumption) ?_
    rotate_left
    · (intro w hSw; (try dsimp only at hSw); go_simp; try with_reducible rfl)
    refine wpAnyH_take (i := 4) (v := undef) rfl (by kernel_rfl) (by kernel_rfl) (by kernel_rfl) (fun _ _ _ h => h) (Or.inr ⟨by rfl, rfl⟩) (by assumption) ?_
    refine wpAnyH_take (i := 5) (v := undef) rfl (by kernel_rfl) (by kernel_rfl) (by kernel_rfl) (fun _ _ _ h => h) (Or.inr ⟨by rfl, rfl⟩) (by assumption) ?_
    refine wpAnyH_take (i := 6) (v := undef) rfl (by kernel_rfl) (by kernel_rfl) (by kernel_rfl) (fun _ _ _ h => h) (Or.inr ⟨by rfl, rfl⟩) (by assumption) ?_
    refine wpAnyH_take (i := 7) (v := ?_) rfl (by kernel_rfl) (by kernel_rfl) (by kernel_rfl) (fun _ _ _ h => h) (Or.inl ⟨by rfl, ?_⟩) (by assumption) ?_
    rotate_left
    · (intro w hSw; (try dsimp only at hSw); go_simp; try with_reducible rfl)
    refine wpAnyH_ready (rs := [8]) (by kernel_rfl) (by simp) ?_
    refine AllReadyH.cons rfl (fun K hK => ?_) AllReadyH.nil
    go_simp
    refine hK.out _ _ ?_ (fun hHeld => ?_)
    · (try dsimp only)
      exact ⟨by go_simp, by go_simp, by go_simp⟩
    clear hK K
    refine wpAnyH_ready (rs := [9]) (by kernel_rfl) (by simp) ?_
    refine AllReadyH.cons rfl (fun K hK => ?_) AllReadyH.nil
    go_simp
    refine hK.out _ _ ?_ (fun hHeld => ?_)
    · (try dsimp only)
      exact ⟨by go_simp, by go_simp, by go_simp⟩
    clear hK K
    refine wpAnyH_done (by kernel_rfl) ?_ _
    go_wp2
    exact bodyPost_ret (v := .tuple #[.agg #[.int .i64 b, .int .i64 c, .int .i64 a], .bool false]) (by simp [results, Try.results48, go_sem]) rfl ⟨rfl, (by repeat (first | exact Below.refl _ _ | assumption | refine Below.setCell ?_ (by first | omega | (simp; done) | (simp; omega)) _ | refine Below.alloc ?_ (by first | omega | (simp; done) | (simp; omega)) _ | refine Below.drew ?_ | refine Below.drewN' ?_ _ | refine Below.trans ?_ (Below.mono (by assumption) (by first | omega | (simp; done) | (simp; omega)))))⟩
  · have e0 : wtB a b c = tB b c := by rw [wt_eq, h0]; rfl
    rw [e0]
    have hw := fun w => wv_any a w
    rw [h0] at hw
    clear e0
    go_enter Try.func48, Try.ntmps48
    go_wp2_with fail
    go_region_held3 (fun w' => w'.cell? ⟨w.heap.size + 1, 0, none⟩ = some (.int .i64 b) ∧ w'.cell? ⟨w.heap.size + 1, 1, none⟩ = some (.int .i64 c) ∧ w'.cell? ⟨w.heap.size + 1, 2, none⟩ = some (.int .i64 a)) (first | exact ⟨by go_simp, by go_simp, by go_simp⟩ | go_keep)
      (first | (go_at_call 40; refine (hw _).mono ?_; rintro e w' ⟨rfl, rfl⟩) | (go_at_call 67; refine (tv_any _ _ _).mono ?_; rintro e w' ⟨rfl, rfl⟩))
    all_goals go_wp2
    all_goals exact bodyPost_ret (v := .tuple #[.agg #[.int .i64 b, .int .i64 c, .int .i64 a], .bool (tB b c)]) (by simp [results, Try.results48, go_sem]) rfl ⟨rfl, (by repeat (first | exact Below.refl _ _ | assumption | refine Below.setCell ?_ (by first | omega | (simp; done) | (simp; omega)) _ | refine Below.alloc ?_ (by first | omega | (simp; done) | (simp; omega)) _ | refine Below.drew ?_ | refine Below.drewN' ?_ _ | refine Below.trans ?_ (Below.mono (by assumption) (by first | omega | (simp; done) | (simp; omega)))))⟩

end Go.Proofs.Ytambjhapnhmmmaa
