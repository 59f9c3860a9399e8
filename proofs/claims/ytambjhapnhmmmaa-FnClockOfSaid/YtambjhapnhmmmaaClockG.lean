/-
  Clocks: ClockOf of the program at times that do not ascend, and at any bad times.
  Conditions: the arguments' ranges, as each theorem states them.
-/
import Derived.Laws.StructEq
import Derived.Test.YtambjhapnhmmmaaRows
import Derived.Test.YtambjhapnhmmmaaLib
import Derived.Test.YtambjhapnhmmmaaDraw
import Derived.Test.YtambjhapnhmmmaaClock
import Derived.Test.YtambjhapnhmmmaaClockE
import Derived.Test.YtambjhapnhmmmaaClockF
namespace Go.Proofs.Ytambjhapnhmmmaa
open Go.RowKit
set_option linter.unusedVariables false

set_option maxHeartbeats 4000000 in
theorem iof_order (wa ma wb mb : Int) (w : World) (h : 0 ≤ wa ∧ wa ≤ 999999 ∧ 0 ≤ wb ∧ wb ≤ 999999 ∧ 0 ≤ ma ∧ ma ≤ 999999 ∧ 0 ≤ mb ∧ mb ≤ 999999) (hno : wb ≤ wa ∨ mb < ma) :
    Calls Try.prog 23 #[.int .i64 wa, .int .i64 ma, .int .i64 wb, .int .i64 mb] w (ofBad w) := by
  obtain ⟨h1, h2, h5, h6, h3, h4, h7, h8⟩ := h
  have d1 : decide (0 ≤ wa) = true := by simpa using h1
  have d2 : decide (wa ≤ 999999) = true := by simpa using h2
  have d3 : decide (0 ≤ ma) = true := by simpa using h3
  have d4 : decide (ma ≤ 999999) = true := by simpa using h4
  have d6 : decide (wb ≤ 999999) = true := by simpa using h6
  have d8 : decide (mb ≤ 999999) = true := by simpa using h8
  have d9 : decide (0 ≤ wb) = true := by simpa using h5
  have d10 : decide (0 ≤ mb) = true := by simpa using h7
  by_cases hw : wb ≤ wa
  · have d11 : decide (wb - wa ≤ 0) = true := by simp; omega
    clear hno
    go_enter Try.func23, Try.ntmps23
    go_wp2_with (first | (go_at_call 50; go_in) | (go_at_call 51; go_in) | (go_at_call 40; go_in))
    refine wp_region_cells [(w.heap.size + 1, 0, .int .i64 wa), (w.heap.size + 1 + 1, 0, .int .i64 wb), (w.heap.size + 1 + 1 + 1, 0, .int .i64 ma), (w.heap.size + 1 + 1 + 1 + 1, 0, .int .i64 mb)] (by kernel_rfl) (by kernel_rfl) ?_ ?_
    · simp only [List.forall_mem_cons]
      exact ⟨by go_simp, by go_simp, by go_simp, by go_simp, by simp⟩
    intro hcs
    simp only [List.forall_mem_cons] at hcs
    obtain ⟨dc0, dc1, dc2, dc3, -⟩ := hcs
    repeat (any_goals (first | go_big_quiet_step (first | (go_at_call 52; exact BW.calls (Nat.le_refl _) _ (wsince_any _ _ _ (by omega) (by omega))) | (go_at_call 53; exact BW.calls (Nat.le_refl _) _ (msince_any _ _ _ (by omega) (by omega)))) | quiet_step (first | (go_at_call 52; exact BW.calls (Nat.le_refl _) _ (wsince_any _ _ _ (by omega) (by omega))) | (go_at_call 53; exact BW.calls (Nat.le_refl _) _ (msince_any _ _ _ (by omega) (by omega))))))
    refine wpQuiet_nil ?_
    intro _ hw'
    obtain ⟨xw, hw''⟩ := hw'
    subst hw''
    have hbw := xw.2
    clear dc0 dc1 dc2 dc3
    generalize xw.1 = ww at hbw ⊢
    clear xw
    obtain ⟨kw, fw⟩ := bcell hbw
    have sw := hbw.size
    have hres : Bk ww w.heap.size 40 #[.int .i64 0, .int .i64 0, .int .i64 0] := Bk.below (by repeat (first | exact Bk.new _ _ _ | refine Bk.alloc ?_ _)) hbw (by simp; omega)
    have hB : Below w.heap.size w ww := (by repeat (first | exact Below.refl _ _ | assumption | refine Below.setCell ?_ (by first | omega | (simp; done) | (simp; omega)) _ | refine Below.alloc ?_ (by first | omega | (simp; done) | (simp; omega)) _ | refine Below.drew ?_ | refine Below.drewN' ?_ _ | refine Below.trans ?_ (Below.mono (by assumption) (by first | omega | (simp; done) | (simp; omega)))))
    clear kw fw sw hbw
    have hresl := hres.lt
    have g0 := hres.cell 0
    have g1 := hres.cell 1
    have g2 := hres.cell 2
    have f0 := hres.frozen 0
    have f1 := hres.frozen 1
    have f2 := hres.frozen 2
    simp at g0 g1 g2
    go_wp2
    have hres5 := ((hres.set_ 0 (.int .i64 0)).set_ 1 (.int .i64 0)).set_ 2 (.int .i64 0)
    have t0 := hres5.cell 0
    have t1 := hres5.cell 1
    have t2 := hres5.cell 2
    simp at t0 t1 t2
    refine ⟨rfl, ?_⟩
    apply Exists.intro
    apply And.intro
    · simp [results, Try.results23, go_sem, t0, t1, t2]; exact rfl
    · exact ⟨rfl, (by repeat (first | exact Below.refl _ _ | assumption | refine Below.setCell ?_ (by first | omega | (simp; done) | (simp; omega)) _ | refine Below.alloc ?_ (by first | omega | (simp; done) | (simp; omega)) _ | refine Below.drew ?_ | refine Below.drewN' ?_ _ | refine Below.trans ?_ (Below.mono (by assumption) (by first | omega | (simp; done) | (simp; omega)))))⟩
  · have d11 : decide (wb - wa ≤ 0) = false := by simp; omega
    have d12 : decide (mb - ma < 0) = true := by simp; omega
    clear hno
    go_enter Try.func23, Try.ntmps23
    go_wp2_with (first | (go_at_call 50; go_in) | (go_at_call 51; go_in) | (go_at_call 40; go_in))
    refine wp_region_cells [(w.heap.size + 1, 0, .int .i64 wa), (w.heap.size + 1 + 1, 0, .int .i64 wb), (w.heap.size + 1 + 1 + 1, 0, .int .i64 ma), (w.heap.size + 1 + 1 + 1 + 1, 0, .int .i64 mb)] (by kernel_rfl) (by kernel_rfl) ?_ ?_
    · simp only [List.forall_mem_cons]
      exact ⟨by go_simp, by go_simp, by go_simp, by go_simp, by simp⟩
    intro hcs
    simp only [List.forall_mem_cons] at hcs
    obtain ⟨dc0, dc1, dc2, dc3, -⟩ := hcs
    repeat (any_goals (first | go_big_quiet_step (first | (go_at_call 52; exact BW.calls (Nat.le_refl _) _ (wsince_any _ _ _ (by omega) (by omega))) | (go_at_call 53; exact BW.calls (Nat.le_refl _) _ (msince_any _ _ _ (by omega) (by omega)))) | quiet_step (first | (go_at_call 52; exact BW.calls (Nat.le_refl _) _ (wsince_any _ _ _ (by omega) (by omega))) | (go_at_call 53; exact BW.calls (Nat.le_refl _) _ (msince_any _ _ _ (by omega) (by omega))))))
    refine wpQuiet_nil ?_
    intro _ hw'
    obtain ⟨xw, hw''⟩ := hw'
    subst hw''
    have hbw := xw.2
    clear dc0 dc1 dc2 dc3
    generalize xw.1 = ww at hbw ⊢
    clear xw
    obtain ⟨kw, fw⟩ := bcell hbw
    have sw := hbw.size
    have hres : Bk ww w.heap.size 40 #[.int .i64 0, .int .i64 0, .int .i64 0] := Bk.below (by repeat (first | exact Bk.new _ _ _ | refine Bk.alloc ?_ _)) hbw (by simp; omega)
    have hB : Below w.heap.size w ww := (by repeat (first | exact Below.refl _ _ | assumption | refine Below.setCell ?_ (by first | omega | (simp; done) | (simp; omega)) _ | refine Below.alloc ?_ (by first | omega | (simp; done) | (simp; omega)) _ | refine Below.drew ?_ | refine Below.drewN' ?_ _ | refine Below.trans ?_ (Below.mono (by assumption) (by first | omega | (simp; done) | (simp; omega)))))
    clear kw fw sw hbw
    have hresl := hres.lt
    have g0 := hres.cell 0
    have g1 := hres.cell 1
    have g2 := hres.cell 2
    have f0 := hres.frozen 0
    have f1 := hres.frozen 1
    have f2 := hres.frozen 2
    simp at g0 g1 g2
    go_wp2
    have hres5 := ((hres.set_ 0 (.int .i64 0)).set_ 1 (.int .i64 0)).set_ 2 (.int .i64 0)
    have t0 := hres5.cell 0
    have t1 := hres5.cell 1
    have t2 := hres5.cell 2
    simp at t0 t1 t2
    refine ⟨rfl, ?_⟩
    apply Exists.intro
    apply And.intro
    · simp [results, Try.results23, go_sem, t0, t1, t2]; exact rfl
    · exact ⟨rfl, (by repeat (first | exact Below.refl _ _ | assumption | refine Below.setCell ?_ (by first | omega | (simp; done) | (simp; omega)) _ | refine Below.alloc ?_ (by first | omega | (simp; done) | (simp; omega)) _ | refine Below.drew ?_ | refine Below.drewN' ?_ _ | refine Below.trans ?_ (Below.mono (by assumption) (by first | omega | (simp; done) | (simp; omega)))))⟩

theorem iof_no (wa ma wb mb : Int) (w : World) (h : ¬ OfOk wa ma wb mb) :
    Calls Try.prog 23 #[.int .i64 wa, .int .i64 ma, .int .i64 wb, .int .i64 mb] w (ofBad w) := by
  by_cases hr : 0 ≤ wa ∧ wa ≤ 999999 ∧ 0 ≤ wb ∧ wb ≤ 999999 ∧ 0 ≤ ma ∧ ma ≤ 999999 ∧ 0 ≤ mb ∧ mb ≤ 999999
  · by_cases ho : wb ≤ wa ∨ mb < ma
    · exact iof_order wa ma wb mb w hr ho
    · exact iof_rate wa ma wb mb w (by unfold TimesOk; omega) h
  · exact iof_range wa ma wb mb w hr
end Go.Proofs.Ytambjhapnhmmmaa
