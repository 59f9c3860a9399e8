/-
  Clocks: the reference's functions, both gaps, both ClockOf.
  Conditions: the arguments' ranges, as each theorem states them.
-/
import Derived.Test.YtambjhapnhmmmaaRows
import Derived.Test.YtambjhapnhmmmaaLib
import Derived.Test.YtambjhapnhmmmaaDraw
import Derived.Test.YtambjhapnhmmmaaClock
namespace Go.Proofs.Ytambjhapnhmmmaa
open Go.RowKit
set_option linter.unusedVariables false

set_option maxHeartbeats 1000000 in
theorem l41ok_yes (a b c : Int) (w : World) (h : ClockOk a b c) :
    Calls Try.prog 55 #[.agg #[.int .i64 a, .int .i64 b, .int .i64 c]] w fun e w' => e = .returned (.bool true) ∧ Below w.heap.size w w' := by
  obtain ⟨h1, h2, h3, h4, h5, h6⟩ := h
  have d1 : decide (0 ≤ a) = true := by simpa using h1
  have d2 : decide (a ≤ 999999) = true := by simpa using h2
  have d3 : decide (0 ≤ b) = true := by simpa using h3
  have d4 : decide (b ≤ 999999) = true := by simpa using h4
  have d5 : decide (1 ≤ c) = true := by simpa using h5
  have d6 : decide (c ≤ 999999) = true := by simpa using h6
  go_enter Try.func55, Try.ntmps55
  go_wp2
  go_ret
  exact ⟨rfl, (by repeat (first | exact Below.refl _ _ | assumption | refine Below.setCell ?_ (by first | omega | (simp; done) | (simp; omega)) _ | refine Below.alloc ?_ (by first | omega | (simp; done) | (simp; omega)) _ | refine Below.drew ?_ | refine Below.drewN' ?_ _ | refine Below.trans ?_ (Below.mono (by assumption) (by first | omega | (simp; done) | (simp; omega)))))⟩
set_option maxHeartbeats 1000000 in
theorem l41ok_no (a b c : Int) (w : World) (h : ¬ ClockOk a b c) :
    Calls Try.prog 55 #[.agg #[.int .i64 a, .int .i64 b, .int .i64 c]] w fun e w' => e = .returned (.bool false) ∧ Below w.heap.size w w' := by
  have hbad : a < 0 ∨ 999999 < a ∨ b < 0 ∨ 999999 < b ∨ c < 1 ∨ 999999 < c := by unfold ClockOk at h; omega
  clear h
  rcases hbad with h | h | h | h | h | h
  · have q : decide (0 ≤ a) = false := by simp; omega
    go_enter Try.func55, Try.ntmps55
    go_wp2
    all_goals go_ret
    all_goals exact ⟨rfl, (by repeat (first | exact Below.refl _ _ | assumption | refine Below.setCell ?_ (by first | omega | (simp; done) | (simp; omega)) _ | refine Below.alloc ?_ (by first | omega | (simp; done) | (simp; omega)) _ | refine Below.drew ?_ | refine Below.drewN' ?_ _ | refine Below.trans ?_ (Below.mono (by assumption) (by first | omega | (simp; done) | (simp; omega)))))⟩
  · have q : decide (a ≤ 999999) = false := by simp; omega
    go_enter Try.func55, Try.ntmps55
    go_wp2
    all_goals go_ret
    all_goals exact ⟨rfl, (by repeat (first | exact Below.refl _ _ | assumption | refine Below.setCell ?_ (by first | omega | (simp; done) | (simp; omega)) _ | refine Below.alloc ?_ (by first | omega | (simp; done) | (simp; omega)) _ | refine Below.drew ?_ | refine Below.drewN' ?_ _ | refine Below.trans ?_ (Below.mono (by assumption) (by first | omega | (simp; done) | (simp; omega)))))⟩
  · have q : decide (0 ≤ b) = false := by simp; omega
    go_enter Try.func55, Try.ntmps55
    go_wp2
    all_goals go_ret
    all_goals exact ⟨rfl, (by repeat (first | exact Below.refl _ _ | assumption | refine Below.setCell ?_ (by first | omega | (simp; done) | (simp; omega)) _ | refine Below.alloc ?_ (by first | omega | (simp; done) | (simp; omega)) _ | refine Below.drew ?_ | refine Below.drewN' ?_ _ | refine Below.trans ?_ (Below.mono (by assumption) (by first | omega | (simp; done) | (simp; omega)))))⟩
  · have q : decide (b ≤ 999999) = false := by simp; omega
    go_enter Try.func55, Try.ntmps55
    go_wp2
    all_goals go_ret
    all_goals exact ⟨rfl, (by repeat (first | exact Below.refl _ _ | assumption | refine Below.setCell ?_ (by first | omega | (simp; done) | (simp; omega)) _ | refine Below.alloc ?_ (by first | omega | (simp; done) | (simp; omega)) _ | refine Below.drew ?_ | refine Below.drewN' ?_ _ | refine Below.trans ?_ (Below.mono (by assumption) (by first | omega | (simp; done) | (simp; omega)))))⟩
  · have q : decide (1 ≤ c) = false := by simp; omega
    go_enter Try.func55, Try.ntmps55
    go_wp2
    all_goals go_ret
    all_goals exact ⟨rfl, (by repeat (first | exact Below.refl _ _ | assumption | refine Below.setCell ?_ (by first | omega | (simp; done) | (simp; omega)) _ | refine Below.alloc ?_ (by first | omega | (simp; done) | (simp; omega)) _ | refine Below.drew ?_ | refine Below.drewN' ?_ _ | refine Below.trans ?_ (Below.mono (by assumption) (by first | omega | (simp; done) | (simp; omega)))))⟩
  · have q : decide (c ≤ 999999) = false := by simp; omega
    go_enter Try.func55, Try.ntmps55
    go_wp2
    all_goals go_ret
    all_goals exact ⟨rfl, (by repeat (first | exact Below.refl _ _ | assumption | refine Below.setCell ?_ (by first | omega | (simp; done) | (simp; omega)) _ | refine Below.alloc ?_ (by first | omega | (simp; done) | (simp; omega)) _ | refine Below.drew ?_ | refine Below.drewN' ?_ _ | refine Below.trans ?_ (Below.mono (by assumption) (by first | omega | (simp; done) | (simp; omega)))))⟩

theorem swallV_any (a b c m : Int) (w : World) (h : WallOk a b c m) :
    Calls Try.prog 64 #[.agg #[.int .i64 a, .int .i64 b, .int .i64 c], .int .i64 m] w fun e w' => e = .returned (.int .i64 (cwallV a b c m)) ∧ Below w.heap.size w w' := by
  obtain ⟨⟨h1, h2, h3, h4, h5, h6⟩, h7, h8⟩ := h
  obtain ⟨hb1, hb2⟩ := ediv_bounds (n := (b - m) * 1000) h5 (by omega) (by omega)
  go_enter Try.func64, Try.ntmps64
  go_wp2_with fail
  have hbk := Bk.new w 40 #[.int .i64 a, .int .i64 b, .int .i64 c]
  have hb3 : Below w.heap.size w (w.alloc (.cells #[.int .i64 a, .int .i64 b, .int .i64 c] 40)) := (by repeat (first | exact Below.refl _ _ | assumption | refine Below.setCell ?_ (by first | omega | (simp; done) | (simp; omega)) _ | refine Below.alloc ?_ (by first | omega | (simp; done) | (simp; omega)) _ | refine Below.drew ?_ | refine Below.drewN' ?_ _ | refine Below.trans ?_ (Below.mono (by assumption) (by first | omega | (simp; done) | (simp; omega)))))
  generalize w.alloc (.cells #[.int .i64 a, .int .i64 b, .int .i64 c] 40) = w3 at *
  have c0 := hbk.cell 0
  have c1 := hbk.cell 1
  have c2 := hbk.cell 2
  simp at c0 c1 c2
  have hk1 := hbk.lt
  have d0 := BW.at_ (N := w3.heap.size) c0 hk1
  have d1 := BW.at_ (N := w3.heap.size) c1 hk1
  have d2 := BW.at_ (N := w3.heap.size) c2 hk1
  refine wp_region_below (by kernel_rfl) (by kernel_rfl) ?_
  repeat (any_goals (first | go_big_quiet_step (first | (go_at_call 68; exact BW.calls (Nat.le_refl _) _ (same_below (floor_any _ _ _ (by omega) (by omega) (by omega))))) | quiet_step (first | (go_at_call 68; exact BW.calls (Nat.le_refl _) _ (same_below (floor_any _ _ _ (by omega) (by omega) (by omega)))))))
  refine wpQuiet_nil ?_
  intro _ hw'
  obtain ⟨xw, hw''⟩ := hw'
  subst hw''
  have hbw := xw.2
  generalize xw.1 = ww at hbw ⊢
  clear xw
  obtain ⟨kw, fw⟩ := bcell hbw
  have sw := hbw.size
  clear d0 d1 d2
  go_wp2
  go_ret
  exact ⟨rfl, (by repeat (first | exact Below.refl _ _ | assumption | refine Below.setCell ?_ (by first | omega | (simp; done) | (simp; omega)) _ | refine Below.alloc ?_ (by first | omega | (simp; done) | (simp; omega)) _ | refine Below.drew ?_ | refine Below.drewN' ?_ _ | refine Below.trans ?_ (Below.mono (by assumption) (by first | omega | (simp; done) | (simp; omega)))))⟩

set_option maxHeartbeats 1000000 in
theorem swall_ok (a b c m : Int) (w : World) (h : WallOk a b c m) :
    Calls Try.prog 29 #[.agg #[.int .i64 a, .int .i64 b, .int .i64 c], .int .i64 m] w fun e w' => e = .returned (.tuple #[.int .i64 (cwallV a b c m), .bool true]) ∧ Below w.heap.size w w' := by
  obtain ⟨hc, hm0, hm1⟩ := id h
  have q1 : decide (0 ≤ m) = true := by simpa using hm0
  have q2 : decide (m ≤ 999999) = true := by simpa using hm1
  go_enter Try.func29, Try.ntmps29
  go_wp2_with (first | (go_at_call 55; refine (l41ok_yes _ _ _ _ hc).mono ?_; rintro e w1 ⟨rfl, hb1⟩; obtain ⟨k1, f1⟩ := bcell hb1; have s1 := hb1.size; (try simp only [World.size_alloc] at k1 f1 s1); (try have le1 : w.heap.size ≤ w1.heap.size := by omega); (try have lt1 : w.heap.size < w1.heap.size := by omega); (try have lt2 : w.heap.size + 1 < w1.heap.size := by omega); (try have le2 : w.heap.size + 1 ≤ w1.heap.size := by omega)) | (go_at_call 64; refine (swallV_any _ _ _ _ _ h).mono ?_; rintro e w1 ⟨rfl, hb1⟩; obtain ⟨k1, f1⟩ := bcell hb1; have s1 := hb1.size; (try simp only [World.size_alloc] at k1 f1 s1); (try have le1 : w.heap.size ≤ w1.heap.size := by omega); (try have lt1 : w.heap.size < w1.heap.size := by omega); (try have lt2 : w.heap.size + 1 < w1.heap.size := by omega); (try have le2 : w.heap.size + 1 ≤ w1.heap.size := by omega)) | go_in)
  go_ret2
  exact ⟨rfl, (by repeat (first | exact Below.refl _ _ | assumption | refine Below.setCell ?_ (by first | omega | (simp; done) | (simp; omega)) _ | refine Below.alloc ?_ (by first | omega | (simp; done) | (simp; omega)) _ | refine Below.drew ?_ | refine Below.drewN' ?_ _ | refine Below.trans ?_ (Below.mono (by assumption) (by first | omega | (simp; done) | (simp; omega)))))⟩
set_option maxHeartbeats 1000000 in
theorem swall_no (a b c m : Int) (w : World) (h : ¬ WallOk a b c m) :
    Calls Try.prog 29 #[.agg #[.int .i64 a, .int .i64 b, .int .i64 c], .int .i64 m] w fun e w' => e = .returned (.tuple #[.int .i64 0, .bool false]) ∧ Below w.heap.size w w' := by
  by_cases hc : ClockOk a b c
  · by_cases hm : 0 ≤ m
    · have q1 : decide (0 ≤ m) = true := by simpa using hm
      have q2 : decide (m ≤ 999999) = false := by
        simp
        rcases Int.lt_or_le 999999 m with h1 | h1
        · exact h1
        · exact (h ⟨hc, hm, h1⟩).elim
      go_enter Try.func29, Try.ntmps29
      go_wp2_with (first | (go_at_call 55; refine (l41ok_yes _ _ _ _ hc).mono ?_; rintro e w1 ⟨rfl, hb1⟩; obtain ⟨k1, f1⟩ := bcell hb1; have s1 := hb1.size; (try simp only [World.size_alloc] at k1 f1 s1); (try have le1 : w.heap.size ≤ w1.heap.size := by omega); (try have lt1 : w.heap.size < w1.heap.size := by omega); (try have lt2 : w.heap.size + 1 < w1.heap.size := by omega); (try have le2 : w.heap.size + 1 ≤ w1.heap.size := by omega)) | go_in)
      go_ret2
      exact ⟨rfl, (by repeat (first | exact Below.refl _ _ | assumption | refine Below.setCell ?_ (by first | omega | (simp; done) | (simp; omega)) _ | refine Below.alloc ?_ (by first | omega | (simp; done) | (simp; omega)) _ | refine Below.drew ?_ | refine Below.drewN' ?_ _ | refine Below.trans ?_ (Below.mono (by assumption) (by first | omega | (simp; done) | (simp; omega)))))⟩
    · have q1 : decide (0 ≤ m) = false := by simpa using hm
      go_enter Try.func29, Try.ntmps29
      go_wp2_with (first | (go_at_call 55; refine (l41ok_yes _ _ _ _ hc).mono ?_; rintro e w1 ⟨rfl, hb1⟩; obtain ⟨k1, f1⟩ := bcell hb1; have s1 := hb1.size; (try simp only [World.size_alloc] at k1 f1 s1); (try have le1 : w.heap.size ≤ w1.heap.size := by omega); (try have lt1 : w.heap.size < w1.heap.size := by omega); (try have lt2 : w.heap.size + 1 < w1.heap.size := by omega); (try have le2 : w.heap.size + 1 ≤ w1.heap.size := by omega)) | go_in)
      go_ret2
      exact ⟨rfl, (by repeat (first | exact Below.refl _ _ | assumption | refine Below.setCell ?_ (by first | omega | (simp; done) | (simp; omega)) _ | refine Below.alloc ?_ (by first | omega | (simp; done) | (simp; omega)) _ | refine Below.drew ?_ | refine Below.drewN' ?_ _ | refine Below.trans ?_ (Below.mono (by assumption) (by first | omega | (simp; done) | (simp; omega)))))⟩
  · go_enter Try.func29, Try.ntmps29
    go_wp2_with (first | (go_at_call 55; refine (l41ok_no _ _ _ _ hc).mono ?_; rintro e w1 ⟨rfl, hb1⟩; obtain ⟨k1, f1⟩ := bcell hb1; have s1 := hb1.size; (try simp only [World.size_alloc] at k1 f1 s1); (try have le1 : w.heap.size ≤ w1.heap.size := by omega); (try have lt1 : w.heap.size < w1.heap.size := by omega); (try have lt2 : w.heap.size + 1 < w1.heap.size := by omega); (try have le2 : w.heap.size + 1 ≤ w1.heap.size := by omega)) | go_in)
    go_ret2
    exact ⟨rfl, (by repeat (first | exact Below.refl _ _ | assumption | refine Below.setCell ?_ (by first | omega | (simp; done) | (simp; omega)) _ | refine Below.alloc ?_ (by first | omega | (simp; done) | (simp; omega)) _ | refine Below.drew ?_ | refine Below.drewN' ?_ _ | refine Below.trans ?_ (Below.mono (by assumption) (by first | omega | (simp; done) | (simp; omega)))))⟩

set_option maxHeartbeats 1000000 in
theorem implgap_ok (a b c m a' b' c' m' : Int) (w : World) (h : WallOk a b c m) (h' : WallOk a' b' c' m') :
    Calls Try.prog 31 #[.agg #[.int .i64 a, .int .i64 b, .int .i64 c], .int .i64 m, .agg #[.int .i64 a', .int .i64 b', .int .i64 c'], .int .i64 m'] w fun e w' => e = .returned (.tuple #[.int .i64 (cwallV a b c m - cwallV a' b' c' m'), .bool true]) ∧ Below w.heap.size w w' := by
  obtain ⟨b1, b2⟩ := cwallV_bd h
  obtain ⟨b3, b4⟩ := cwallV_bd h'
  go_enter Try.func31, Try.ntmps31
  go_wp2_with fail
  refine (iwall_ok a b c m _ h).mono ?_
  rintro e w1 ⟨rfl, hb1⟩
  obtain ⟨k1, f1⟩ := bcell hb1
  have s1 := hb1.size
  simp only [World.size_alloc] at k1 f1 s1
  go_wp2_with fail
  refine (iwall_ok a' b' c' m' _ h').mono ?_
  rintro e w2 ⟨rfl, hb2⟩
  go_wp2
  go_ret2
  exact ⟨rfl, (by repeat (first | exact Below.refl _ _ | assumption | refine Below.setCell ?_ (by first | omega | (simp; done) | (simp; omega)) _ | refine Below.alloc ?_ (by first | omega | (simp; done) | (simp; omega)) _ | refine Below.drew ?_ | refine Below.drewN' ?_ _ | refine Below.trans ?_ (Below.mono (by assumption) (by first | omega | (simp; done) | (simp; omega)))))⟩
set_option maxHeartbeats 1000000 in
theorem implgap_no (a b c m a' b' c' m' : Int) (w : World) (h : ¬ (WallOk a b c m ∧ WallOk a' b' c' m')) :
    Calls Try.prog 31 #[.agg #[.int .i64 a, .int .i64 b, .int .i64 c], .int .i64 m, .agg #[.int .i64 a', .int .i64 b', .int .i64 c'], .int .i64 m'] w fun e w' => e = .returned (.tuple #[.int .i64 0, .bool false]) ∧ Below w.heap.size w w' := by
  by_cases h1 : WallOk a b c m
  · have h2 : ¬ WallOk a' b' c' m' := fun hh => h ⟨h1, hh⟩
    go_enter Try.func31, Try.ntmps31
    go_wp2_with fail
    refine (iwall_ok a b c m _ h1).mono ?_
    rintro e w1 ⟨rfl, hb1⟩
    obtain ⟨k1, f1⟩ := bcell hb1
    have s1 := hb1.size
    simp only [World.size_alloc] at k1 f1 s1
    go_wp2_with fail
    refine (iwall_no a' b' c' m' _ h2).mono ?_
    rintro e w2 ⟨rfl, hb2⟩
    go_wp2
    go_ret2
    exact ⟨rfl, (by repeat (first | exact Below.refl _ _ | assumption | refine Below.setCell ?_ (by first | omega | (simp; done) | (simp; omega)) _ | refine Below.alloc ?_ (by first | omega | (simp; done) | (simp; omega)) _ | refine Below.drew ?_ | refine Below.drewN' ?_ _ | refine Below.trans ?_ (Below.mono (by assumption) (by first | omega | (simp; done) | (simp; omega)))))⟩
  · by_cases h2 : WallOk a' b' c' m'
    · go_enter Try.func31, Try.ntmps31
      go_wp2_with fail
      refine (iwall_no a b c m _ h1).mono ?_
      rintro e w1 ⟨rfl, hb1⟩
      obtain ⟨k1, f1⟩ := bcell hb1
      have s1 := hb1.size
      simp only [World.size_alloc] at k1 f1 s1
      go_wp2_with fail
      refine (iwall_ok a' b' c' m' _ h2).mono ?_
      rintro e w2 ⟨rfl, hb2⟩
      go_wp2
      go_ret2
      exact ⟨rfl, (by repeat (first | exact Below.refl _ _ | assumption | refine Below.setCell ?_ (by first | omega | (simp; done) | (simp; omega)) _ | refine Below.alloc ?_ (by first | omega | (simp; done) | (simp; omega)) _ | refine Below.drew ?_ | refine Below.drewN' ?_ _ | refine Below.trans ?_ (Below.mono (by assumption) (by first | omega | (simp; done) | (simp; omega)))))⟩
    · go_enter Try.func31, Try.ntmps31
      go_wp2_with fail
      refine (iwall_no a b c m _ h1).mono ?_
      rintro e w1 ⟨rfl, hb1⟩
      obtain ⟨k1, f1⟩ := bcell hb1
      have s1 := hb1.size
      simp only [World.size_alloc] at k1 f1 s1
      go_wp2_with fail
      refine (iwall_no a' b' c' m' _ h2).mono ?_
      rintro e w2 ⟨rfl, hb2⟩
      go_wp2
      go_ret2
      exact ⟨rfl, (by repeat (first | exact Below.refl _ _ | assumption | refine Below.setCell ?_ (by first | omega | (simp; done) | (simp; omega)) _ | refine Below.alloc ?_ (by first | omega | (simp; done) | (simp; omega)) _ | refine Below.drew ?_ | refine Below.drewN' ?_ _ | refine Below.trans ?_ (Below.mono (by assumption) (by first | omega | (simp; done) | (simp; omega)))))⟩
set_option maxHeartbeats 1000000 in
theorem specgap_ok (a b c m a' b' c' m' : Int) (w : World) (h : WallOk a b c m) (h' : WallOk a' b' c' m') :
    Calls Try.prog 32 #[.agg #[.int .i64 a, .int .i64 b, .int .i64 c], .int .i64 m, .agg #[.int .i64 a', .int .i64 b', .int .i64 c'], .int .i64 m'] w fun e w' => e = .returned (.tuple #[.int .i64 (cwallV a b c m - cwallV a' b' c' m'), .bool true]) ∧ Below w.heap.size w w' := by
  obtain ⟨b1, b2⟩ := cwallV_bd h
  obtain ⟨b3, b4⟩ := cwallV_bd h'
  go_enter Try.func32, Try.ntmps32
  go_wp2_with fail
  refine (swall_ok a b c m _ h).mono ?_
  rintro e w1 ⟨rfl, hb1⟩
  obtain ⟨k1, f1⟩ := bcell hb1
  have s1 := hb1.size
  simp only [World.size_alloc] at k1 f1 s1
  go_wp2_with fail
  refine (swall_ok a' b' c' m' _ h').mono ?_
  rintro e w2 ⟨rfl, hb2⟩
  go_wp2
  go_ret2
  exact ⟨rfl, (by repeat (first | exact Below.refl _ _ | assumption | refine Below.setCell ?_ (by first | omega | (simp; done) | (simp; omega)) _ | refine Below.alloc ?_ (by first | omega | (simp; done) | (simp; omega)) _ | refine Below.drew ?_ | refine Below.drewN' ?_ _ | refine Below.trans ?_ (Below.mono (by assumption) (by first | omega | (simp; done) | (simp; omega)))))⟩
set_option maxHeartbeats 1000000 in
theorem specgap_no (a b c m a' b' c' m' : Int) (w : World) (h : ¬ (WallOk a b c m ∧ WallOk a' b' c' m')) :
    Calls Try.prog 32 #[.agg #[.int .i64 a, .int .i64 b, .int .i64 c], .int .i64 m, .agg #[.int .i64 a', .int .i64 b', .int .i64 c'], .int .i64 m'] w fun e w' => e = .returned (.tuple #[.int .i64 0, .bool false]) ∧ Below w.heap.size w w' := by
  by_cases h1 : WallOk a b c m
  · have h2 : ¬ WallOk a' b' c' m' := fun hh => h ⟨h1, hh⟩
    go_enter Try.func32, Try.ntmps32
    go_wp2_with fail
    refine (swall_ok a b c m _ h1).mono ?_
    rintro e w1 ⟨rfl, hb1⟩
    obtain ⟨k1, f1⟩ := bcell hb1
    have s1 := hb1.size
    simp only [World.size_alloc] at k1 f1 s1
    go_wp2_with fail
    refine (swall_no a' b' c' m' _ h2).mono ?_
    rintro e w2 ⟨rfl, hb2⟩
    go_wp2
    go_ret2
    exact ⟨rfl, (by repeat (first | exact Below.refl _ _ | assumption | refine Below.setCell ?_ (by first | omega | (simp; done) | (simp; omega)) _ | refine Below.alloc ?_ (by first | omega | (simp; done) | (simp; omega)) _ | refine Below.drew ?_ | refine Below.drewN' ?_ _ | refine Below.trans ?_ (Below.mono (by assumption) (by first | omega | (simp; done) | (simp; omega)))))⟩
  · by_cases h2 : WallOk a' b' c' m'
    · go_enter Try.func32, Try.ntmps32
      go_wp2_with fail
      refine (swall_no a b c m _ h1).mono ?_
      rintro e w1 ⟨rfl, hb1⟩
      obtain ⟨k1, f1⟩ := bcell hb1
      have s1 := hb1.size
      simp only [World.size_alloc] at k1 f1 s1
      go_wp2_with fail
      refine (swall_ok a' b' c' m' _ h2).mono ?_
      rintro e w2 ⟨rfl, hb2⟩
      go_wp2
      go_ret2
      exact ⟨rfl, (by repeat (first | exact Below.refl _ _ | assumption | refine Below.setCell ?_ (by first | omega | (simp; done) | (simp; omega)) _ | refine Below.alloc ?_ (by first | omega | (simp; done) | (simp; omega)) _ | refine Below.drew ?_ | refine Below.drewN' ?_ _ | refine Below.trans ?_ (Below.mono (by assumption) (by first | omega | (simp; done) | (simp; omega)))))⟩
    · go_enter Try.func32, Try.ntmps32
      go_wp2_with fail
      refine (swall_no a b c m _ h1).mono ?_
      rintro e w1 ⟨rfl, hb1⟩
      obtain ⟨k1, f1⟩ := bcell hb1
      have s1 := hb1.size
      simp only [World.size_alloc] at k1 f1 s1
      go_wp2_with fail
      refine (swall_no a' b' c' m' _ h2).mono ?_
      rintro e w2 ⟨rfl, hb2⟩
      go_wp2
      go_ret2
      exact ⟨rfl, (by repeat (first | exact Below.refl _ _ | assumption | refine Below.setCell ?_ (by first | omega | (simp; done) | (simp; omega)) _ | refine Below.alloc ?_ (by first | omega | (simp; done) | (simp; omega)) _ | refine Below.drew ?_ | refine Below.drewN' ?_ _ | refine Below.trans ?_ (Below.mono (by assumption) (by first | omega | (simp; done) | (simp; omega)))))⟩
end Go.Proofs.Ytambjhapnhmmmaa
