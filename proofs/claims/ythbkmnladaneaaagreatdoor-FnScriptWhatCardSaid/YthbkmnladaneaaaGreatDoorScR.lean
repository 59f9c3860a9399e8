/-
  Scripts: the deferred closure of the program's line: a frame that panics, a frame that returns.
  Conditions: the result's cell is there.
-/
import Derived.Test.YthbkmnladaneaaaGreatDoorScJ
import Derived.Defers
import Derived.Recover
namespace Go.Proofs.YthbkmnladaneaaaGreatDoor
open Go.RowKit
set_option linter.unusedVariables false
set_option linter.unusedSimpArgs false
set_option maxRecDepth 100000

set_option maxHeartbeats 1000000 in
theorem line1_panic (g : Nat) (x : Value) (a : List UInt8) (w : World) (hc : Bk w g 9 #[x]) :
    CallsD Tryz.prog 31 #[.pointer (some ⟨g, 0, none⟩)] (.panicking [{ v := thrown a, recovered := false }]) w fun e u' w' =>
      e = .returned (.tuple #[]) ∧ u' = .panicking [{ v := thrown a, recovered := true }] ∧ w' = (w.setCell ⟨g, 0, none⟩ (.string ⟨a.toArray⟩)).alloc (.cells #[.string ⟨a.toArray⟩] 60) := by
  have hlt := hc.lt
  have hc0 := hc.cell 0
  have hz0 := hc.frozen 0
  simp only [List.getElem?_toArray, List.getElem?_cons_zero] at hc0
  have ta : ∀ (s : ByteArray) (w : World), (Instr.typeAssert (.iface 60 (.agg #[.string s])) 20 60 true).run Tryz.prog w = .ok (.tuple #[.agg #[.string s], .bool true]) w := fun _ _ => by kernel_rfl
  unfold thrown
  refine callsD_of_wpS Tryz.func31 rfl fun c₀ cs hu => ?_
  apply wpS_seq
  apply wpS_region
  simp [wpOpsS, go_sem, recoverD, hu, Tryz.ntmps31, Exit.thenS]
  refine wpS_of_wp ?_
  go_wp2
  exact ⟨rfl, _, rfl, _, by simp [results, Tryz.results31], rfl, rfl, rfl⟩
set_option maxHeartbeats 1000000 in
theorem line1_idle (p : Addr) (w : World) :
    CallsD Tryz.prog 31 #[.pointer (some p)] .returning w fun e u' w' => e = .returned (.tuple #[]) ∧ u' = .returning ∧ w' = w := by
  refine callsD_of_wpS Tryz.func31 rfl fun c₀ cs hu => ?_
  apply wpS_seq
  apply wpS_region
  simp [wpOpsS, go_sem, recoverD, hu, Tryz.ntmps31, Exit.thenS]
  refine wpS_of_wp ?_
  go_wp2
  cases c₀
  simp_all [bodyPostS, results, Tryz.results31]
end Go.Proofs.YthbkmnladaneaaaGreatDoor
