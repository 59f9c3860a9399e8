/-
  Clocks: ClockOf of the program and of the reference, and the draw for it.
  Conditions: the arguments' ranges, as each theorem states them.
-/
import Derived.Test.YtambjhapnhmmmaaRows
import Derived.Test.YtambjhapnhmmmaaLib
import Derived.Test.YtambjhapnhmmmaaDraw
import Derived.Test.YtambjhapnhmmmaaClock
import Derived.Test.YtambjhapnhmmmaaClockB
namespace Go.Proofs.Ytambjhapnhmmmaa
open Go.RowKit
set_option linter.unusedVariables false

/-- Are the times valid, the second one later? -/
def TimesOk (wa ma wb mb : Int) : Prop := 0 ≤ wa ∧ wa ≤ 999999 ∧ 0 ≤ ma ∧ ma ≤ 999999 ∧ 0 ≤ wb ∧ wb ≤ 999999 ∧ 0 ≤ mb ∧ mb ≤ 999999 ∧ wa < wb ∧ ma ≤ mb
def rateOf (wa ma wb mb : Int) : Int := 1000 * (mb - ma) / (wb - wa)
def OfOk (wa ma wb mb : Int) : Prop := TimesOk wa ma wb mb ∧ 1 ≤ rateOf wa ma wb mb ∧ rateOf wa ma wb mb ≤ 999999

theorem rate_bd {wa ma wb mb : Int} (h : TimesOk wa ma wb mb) : 0 ≤ rateOf wa ma wb mb ∧ rateOf wa ma wb mb ≤ 999999000 := by
  obtain ⟨h1, h2, h3, h4, h5, h6, h7, h8, h9, h10⟩ := h
  unfold rateOf
  constructor
  · exact Int.ediv_nonneg (by omega) (by omega)
  · have := Int.ediv_le_self (wb - wa) (show 0 ≤ 1000 * (mb - ma) by omega)
    omega

def ofBad (w : World) (e : Ending) (w' : World) : Prop := e = .returned (.tuple #[.agg #[.int .i64 0, .int .i64 0, .int .i64 0], .bool false]) ∧ Below w.heap.size w w'
def ofGood (wa ma r : Int) (w : World) (e : Ending) (w' : World) : Prop := e = .returned (.tuple #[.agg #[.int .i64 wa, .int .i64 ma, .int .i64 r], .bool true]) ∧ Below w.heap.size w w'

theorem ofOk_clock {wa ma wb mb r : Int} (h : TimesOk wa ma wb mb) (hr : r = rateOf wa ma wb mb) : ClockOk wa ma r ↔ OfOk wa ma wb mb := by
  subst hr
  obtain ⟨h1, h2, h3, h4, _⟩ := id h
  unfold OfOk ClockOk
  exact ⟨fun hh => ⟨h, hh.2.2.2.2⟩, fun hh => ⟨h1, h2, h3, h4, hh.2⟩⟩

set_option maxHeartbeats 4000000 in
theorem sof_ok (wa ma wb mb : Int) (w : World) (hok : OfOk wa ma wb mb) :
    Calls Try.prog 24 #[.int .i64 wa, .int .i64 ma, .int .i64 wb, .int .i64 mb] w (ofGood wa ma (rateOf wa ma wb mb) w) := by
  obtain ⟨r0, r1⟩ := rate_bd hok.1
  have h := hok.1
  obtain ⟨h1, h2, h3, h4, h5, h6, h7, h8, h9, h10⟩ := id h
  have HR : Hid (rateOf wa ma wb mb = (mb - ma) * 1000 / (wb - wa)) := by show _ = _; unfold rateOf; rw [Int.mul_comm]
  have d1 : decide (0 ≤ wa) = true := by simpa using h1
  have d2 : decide (wa ≤ 999999) = true := by simpa using h2
  have d3 : decide (0 ≤ ma) = true := by simpa using h3
  have d4 : decide (ma ≤ 999999) = true := by simpa using h4
  have d5 : decide (wa + 1 ≤ wb) = true := by simp; omega
  have d6 : decide (wb ≤ 999999) = true := by simpa using h6
  have d7 : decide (ma ≤ mb) = true := by simpa using h10
  have d8 : decide (mb ≤ 999999) = true := by simpa using h8
  have d9 : decide (0 ≤ wb) = true := by simpa using h5
  have d10 : decide (0 ≤ mb) = true := by simpa using h7
  have d11 : decide (wb - wa ≤ 0) = false := by simp; omega
  have d12 : decide (mb - ma < 0) = false := by simp; omega
  have hne : ¬ wb - wa = 0 := by omega
  have hc := (ofOk_clock h HR.out.symm).2 hok
  rw [HR.out] at r0 r1
  clear hok
  go_enter Try.func24, Try.ntmps24
  go_wp2_with (first | (go_at_call 43; go_in))
  refine (l41ok_yes _ _ _ _ hc).mono ?_
  rintro e w1 ⟨rfl, hb1⟩
  have hres := ((Bk.new w 40 #[.int .i64 0, .int .i64 0, .int .i64 0]).alloc _).below hb1 (by simp; omega)
  have s1 := hb1.size
  simp only [World.size_alloc] at s1
  have e0 := hres.cell 0
  have e1 := hres.cell 1
  have e2 := hres.cell 2
  have f0 := hres.frozen 0
  have f1 := hres.frozen 1
  have f2 := hres.frozen 2
  have hk := ((Bk.new (w.alloc (.cells #[.int .i64 0, .int .i64 0, .int .i64 0] 40)) 40 #[.int .i64 wa, .int .i64 ma, .int .i64 ((mb - ma) * 1000 / (wb - wa))])).below hb1 (by simp)
  rw [World.size_alloc] at hk
  have k0 := hk.cell 0
  have k1 := hk.cell 1
  have k2 := hk.cell 2
  simp at e0 e1 e2 k0 k1 k2
  go_wp2
  have hres5 := ((hres.set_ 0 (.int .i64 wa)).set_ 1 (.int .i64 ma)).set_ 2 (.int .i64 ((mb - ma) * 1000 / (wb - wa)))
  have t0 := hres5.cell 0
  have t1 := hres5.cell 1
  have t2 := hres5.cell 2
  simp at t0 t1 t2
  refine ⟨rfl, ?_⟩
  apply Exists.intro
  apply And.intro
  · simp [results, Try.results24, go_sem, t0, t1, t2]; exact rfl
  · exact ⟨by rw [HR.out], (by repeat (first | exact Below.refl _ _ | assumption | refine Below.setCell ?_ (by first | omega | (simp; done) | (simp; omega)) _ | refine Below.alloc ?_ (by first | omega | (simp; done) | (simp; omega)) _ | refine Below.drew ?_ | refine Below.drewN' ?_ _ | refine Below.trans ?_ (Below.mono (by assumption) (by first | omega | (simp; done) | (simp; omega)))))⟩

set_option maxHeartbeats 4000000 in
theorem sof_no (wa ma wb mb : Int) (w : World) (hok : ¬ OfOk wa ma wb mb) :
    Calls Try.prog 24 #[.int .i64 wa, .int .i64 ma, .int .i64 wb, .int .i64 mb] w (ofBad w) := by
  by_cases h : TimesOk wa ma wb mb
  · obtain ⟨r0, r1⟩ := rate_bd h
    obtain ⟨h1, h2, h3, h4, h5, h6, h7, h8, h9, h10⟩ := id h
    have HR : Hid (rateOf wa ma wb mb = (mb - ma) * 1000 / (wb - wa)) := by show _ = _; unfold rateOf; rw [Int.mul_comm]
    have d1 : decide (0 ≤ wa) = true := by simpa using h1
    have d2 : decide (wa ≤ 999999) = true := by simpa using h2
    have d3 : decide (0 ≤ ma) = true := by simpa using h3
    have d4 : decide (ma ≤ 999999) = true := by simpa using h4
    have d5 : decide (wa + 1 ≤ wb) = true := by simp; omega
    have d6 : decide (wb ≤ 999999) = true := by simpa using h6
    have d7 : decide (ma ≤ mb) = true := by simpa using h10
    have d8 : decide (mb ≤ 999999) = true := by simpa using h8
    have d9 : decide (0 ≤ wb) = true := by simpa using h5
    have d10 : decide (0 ≤ mb) = true := by simpa using h7
    have d11 : decide (wb - wa ≤ 0) = false := by simp; omega
    have d12 : decide (mb - ma < 0) = false := by simp; omega
    have hne : ¬ wb - wa = 0 := by omega
    have hc := fun hh => hok ((ofOk_clock h HR.out.symm).1 hh)
    rw [HR.out] at r0 r1
    clear hok
    go_enter Try.func24, Try.ntmps24
    go_wp2_with (first | (go_at_call 43; go_in))
    refine (l41ok_no _ _ _ _ hc).mono ?_
    rintro e w1 ⟨rfl, hb1⟩
    have hres := ((Bk.new w 40 #[.int .i64 0, .int .i64 0, .int .i64 0]).alloc _).below hb1 (by simp; omega)
    have s1 := hb1.size
    simp only [World.size_alloc] at s1
    have e0 := hres.cell 0
    have e1 := hres.cell 1
    have e2 := hres.cell 2
    have f0 := hres.frozen 0
    have f1 := hres.frozen 1
    have f2 := hres.frozen 2
    have hk := ((Bk.new (w.alloc (.cells #[.int .i64 0, .int .i64 0, .int .i64 0] 40)) 40 #[.int .i64 wa, .int .i64 ma, .int .i64 ((mb - ma) * 1000 / (wb - wa))])).below hb1 (by simp)
    rw [World.size_alloc] at hk
    have k0 := hk.cell 0
    have k1 := hk.cell 1
    have k2 := hk.cell 2
    simp at e0 e1 e2 k0 k1 k2
    go_wp2
    have hres5 := ((hres.set_ 0 (.int .i64 0)).set_ 1 (.int .i64 0)).set_ 2 (.int .i64 0)
    have t0 := hres5.cell 0
    have t1 := hres5.cell 1
    have t2 := hres5.cell 2
    simp at t0 t1 t2
    refine ⟨rfl, ?_⟩
    apply Exists.intro
    apply And.intro
    · simp [results, Try.results24, go_sem, t0, t1, t2]; exact rfl
    · exact ⟨rfl, (by repeat (first | exact Below.refl _ _ | assumption | refine Below.setCell ?_ (by first | omega | (simp; done) | (simp; omega)) _ | refine Below.alloc ?_ (by first | omega | (simp; done) | (simp; omega)) _ | refine Below.drew ?_ | refine Below.drewN' ?_ _ | refine Below.trans ?_ (Below.mono (by assumption) (by first | omega | (simp; done) | (simp; omega)))))⟩
  · clear hok
    have hbad : wa < 0 ∨ 999999 < wa ∨ ma < 0 ∨ 999999 < ma ∨ wb < wa + 1 ∨ 999999 < wb ∨ mb < ma ∨ 999999 < mb := by unfold TimesOk at h; omega
    clear h
    rcases hbad with h | h | h | h | h | h | h | h
    · have q : decide (0 ≤ wa) = false := by simp; omega
      go_enter Try.func24, Try.ntmps24
      go_wp2_with go_in
      all_goals
        refine ⟨rfl, ?_⟩
        apply Exists.intro
        apply And.intro
        · simp [results, Try.results24, go_sem]; exact rfl
        · exact ⟨rfl, (by repeat (first | exact Below.refl _ _ | assumption | refine Below.setCell ?_ (by first | omega | (simp; done) | (simp; omega)) _ | refine Below.alloc ?_ (by first | omega | (simp; done) | (simp; omega)) _ | refine Below.drew ?_ | refine Below.drewN' ?_ _ | refine Below.trans ?_ (Below.mono (by assumption) (by first | omega | (simp; done) | (simp; omega)))))⟩
    · have q : decide (wa ≤ 999999) = false := by simp; omega
      go_enter Try.func24, Try.ntmps24
      go_wp2_with go_in
      all_goals
        refine ⟨rfl, ?_⟩
        apply Exists.intro
        apply And.intro
        · simp [results, Try.results24, go_sem]; exact rfl
        · exact ⟨rfl, (by repeat (first | exact Below.refl _ _ | assumption | refine Below.setCell ?_ (by first | omega | (simp; done) | (simp; omega)) _ | refine Below.alloc ?_ (by first | omega | (simp; done) | (simp; omega)) _ | refine Below.drew ?_ | refine Below.drewN' ?_ _ | refine Below.trans ?_ (Below.mono (by assumption) (by first | omega | (simp; done) | (simp; omega)))))⟩
    · have q : decide (0 ≤ ma) = false := by simp; omega
      go_enter Try.func24, Try.ntmps24
      go_wp2_with go_in
      all_goals
        refine ⟨rfl, ?_⟩
        apply Exists.intro
        apply And.intro
        · simp [results, Try.results24, go_sem]; exact rfl
        · exact ⟨rfl, (by repeat (first | exact Below.refl _ _ | assumption | refine Below.setCell ?_ (by first | omega | (simp; done) | (simp; omega)) _ | refine Below.alloc ?_ (by first | omega | (simp; done) | (simp; omega)) _ | refine Below.drew ?_ | refine Below.drewN' ?_ _ | refine Below.trans ?_ (Below.mono (by assumption) (by first | omega | (simp; done) | (simp; omega)))))⟩
    · have q : decide (ma ≤ 999999) = false := by simp; omega
      go_enter Try.func24, Try.ntmps24
      go_wp2_with go_in
      all_goals
        refine ⟨rfl, ?_⟩
        apply Exists.intro
        apply And.intro
        · simp [results, Try.results24, go_sem]; exact rfl
        · exact ⟨rfl, (by repeat (first | exact Below.refl _ _ | assumption | refine Below.setCell ?_ (by first | omega | (simp; done) | (simp; omega)) _ | refine Below.alloc ?_ (by first | omega | (simp; done) | (simp; omega)) _ | refine Below.drew ?_ | refine Below.drewN' ?_ _ | refine Below.trans ?_ (Below.mono (by assumption) (by first | omega | (simp; done) | (simp; omega)))))⟩
    · have q : decide (wa + 1 ≤ wb) = false := by simp; omega
      go_enter Try.func24, Try.ntmps24
      go_wp2_with go_in
      all_goals
        refine ⟨rfl, ?_⟩
        apply Exists.intro
        apply And.intro
        · simp [results, Try.results24, go_sem]; exact rfl
        · exact ⟨rfl, (by repeat (first | exact Below.refl _ _ | assumption | refine Below.setCell ?_ (by first | omega | (simp; done) | (simp; omega)) _ | refine Below.alloc ?_ (by first | omega | (simp; done) | (simp; omega)) _ | refine Below.drew ?_ | refine Below.drewN' ?_ _ | refine Below.trans ?_ (Below.mono (by assumption) (by first | omega | (simp; done) | (simp; omega)))))⟩
    · have q : decide (wb ≤ 999999) = false := by simp; omega
      go_enter Try.func24, Try.ntmps24
      go_wp2_with go_in
      all_goals
        refine ⟨rfl, ?_⟩
        apply Exists.intro
        apply And.intro
        · simp [results, Try.results24, go_sem]; exact rfl
        · exact ⟨rfl, (by repeat (first | exact Below.refl _ _ | assumption | refine Below.setCell ?_ (by first | omega | (simp; done) | (simp; omega)) _ | refine Below.alloc ?_ (by first | omega | (simp; done) | (simp; omega)) _ | refine Below.drew ?_ | refine Below.drewN' ?_ _ | refine Below.trans ?_ (Below.mono (by assumption) (by first | omega | (simp; done) | (simp; omega)))))⟩
    · have q : decide (ma ≤ mb) = false := by simp; omega
      go_enter Try.func24, Try.ntmps24
      go_wp2_with go_in
      all_goals
        refine ⟨rfl, ?_⟩
        apply Exists.intro
        apply And.intro
        · simp [results, Try.results24, go_sem]; exact rfl
        · exact ⟨rfl, (by repeat (first | exact Below.refl _ _ | assumption | refine Below.setCell ?_ (by first | omega | (simp; done) | (simp; omega)) _ | refine Below.alloc ?_ (by first | omega | (simp; done) | (simp; omega)) _ | refine Below.drew ?_ | refine Below.drewN' ?_ _ | refine Below.trans ?_ (Below.mono (by assumption) (by first | omega | (simp; done) | (simp; omega)))))⟩
    · have q : decide (mb ≤ 999999) = false := by simp; omega
      go_enter Try.func24, Try.ntmps24
      go_wp2_with go_in
      all_goals
        refine ⟨rfl, ?_⟩
        apply Exists.intro
        apply And.intro
        · simp [results, Try.results24, go_sem]; exact rfl
        · exact ⟨rfl, (by repeat (first | exact Below.refl _ _ | assumption | refine Below.setCell ?_ (by first | omega | (simp; done) | (simp; omega)) _ | refine Below.alloc ?_ (by first | omega | (simp; done) | (simp; omega)) _ | refine Below.drew ?_ | refine Below.drewN' ?_ _ | refine Below.trans ?_ (Below.mono (by assumption) (by first | omega | (simp; done) | (simp; omega)))))⟩
end Go.Proofs.Ytambjhapnhmmmaa
