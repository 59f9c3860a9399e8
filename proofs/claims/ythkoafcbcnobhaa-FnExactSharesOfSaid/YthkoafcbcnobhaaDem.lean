/-
  Demands: what is valid; both programs' DemandsValid.
  Conditions: as each theorem states them.
-/
import Derived.Test.YthkoafcbcnobhaaRows
import Derived.Test.YthkoafcbcnobhaaLib
import Derived.Test.YthkoafcbcnobhaaOwn
import Derived.Test.YthkoafcbcnobhaaDraw
import Derived.Test.YthkoafcbcnobhaaInv
import Derived.Test.YthkoafcbcnobhaaSlots
import Derived.Test.YthkoafcbcnobhaaBasD
import Derived.Outline
namespace Go.Proofs.Ythkoafcbcnobhaa
open Go.RowKit
set_option linter.unusedVariables false
set_option linter.unusedSimpArgs false

def dOk (x : Dm) : Prop := 0 ≤ x.we ∧ x.we ≤ 9 ∧ 1 ≤ x.lo ∧ x.lo < x.mi ∧ x.mi < x.hi ∧ x.hi ≤ 9999
instance (x : Dm) : Decidable (dOk x) := by unfold dOk; infer_instance
def dB (x : Dm) : Bool := decide (dOk x)
def inB (x a b : Int) : Bool := decide (a ≤ x ∧ x ≤ b)
def lOk (xs : List Dm) : Prop := xs.length ≤ 6 ∧ ∀ x ∈ xs, dOk x
instance (xs : List Dm) : Decidable (lOk xs) := by unfold lOk; infer_instance
def lB (xs : List Dm) : Bool := decide (lOk xs)

set_option maxHeartbeats 1000000 in
theorem l6In_any (x a b : Int) (w : World) : Calls Try.prog 40 #[.int .i64 x, .int .i64 a, .int .i64 b] w fun e w' => e = .returned (.bool (inB x a b)) ∧ Below w.heap.size w w' := by
  go_enter Try.func40, Try.ntmps40
  go_wp2_with go_in
  all_goals
    go_ret
    exact ⟨ret_bool (by unfold inB; first | exact decide_eq_decide.2 (by omega) | exact (decide_eq_false (by omega)).symm | exact (decide_eq_true (by omega)).symm), (by repeat (first | exact Below.refl _ _ | assumption | refine Below.setCell ?_ (by first | omega | (simp; done) | (simp; omega)) _ | refine Below.alloc ?_ (by first | omega | (simp; done) | (simp; omega)) _ | refine Below.drew ?_ | refine Below.drewN' ?_ _ | refine Below.trans ?_ (Below.mono (by assumption) (by first | omega | (simp; done) | (simp; omega)))))⟩
set_option maxHeartbeats 1000000 in
theorem dvalid_any (x : Dm) (w : World) : Calls Try.prog 50 #[.agg #[.int .i64 x.we, .int .i64 x.lo, .int .i64 x.mi, .int .i64 x.hi]] w fun e w' => e = .returned (.bool (dB x)) ∧ Below w.heap.size w w' := by
  go_enter Try.func50, Try.ntmps50
  go_wp2_with go_in
  all_goals
    go_ret
    exact ⟨ret_bool (by ((try simp only [decide_eq_true_eq, decide_eq_false_iff_not, Bool.not_eq_true', Bool.not_eq_false'] at *); unfold dB dOk; first | exact decide_eq_decide.2 (by omega) | exact (decide_eq_false (by omega)).symm | exact (decide_eq_true (by omega)).symm)), (by repeat (first | exact Below.refl _ _ | assumption | refine Below.setCell ?_ (by first | omega | (simp; done) | (simp; omega)) _ | refine Below.alloc ?_ (by first | omega | (simp; done) | (simp; omega)) _ | refine Below.drew ?_ | refine Below.drewN' ?_ _ | refine Below.trans ?_ (Below.mono (by assumption) (by first | omega | (simp; done) | (simp; omega)))))⟩
end Go.Proofs.Ythkoafcbcnobhaa
