/-
  Clocks: what the functions of chapter 41 give.
  Conditions: the arguments' ranges, as each theorem states them.
-/
import Derived.Test.YtambjhapnhmmmaaRows
import Derived.Test.YtambjhapnhmmmaaLib
import Derived.Test.YtambjhapnhmmmaaDraw
namespace Go.Proofs.Ytambjhapnhmmmaa
open Go.RowKit
set_option linter.unusedVariables false

theorem cwall_any (a b c : Int) (w : World) : Calls Try.prog 57 #[.agg #[.int .i64 a, .int .i64 b, .int .i64 c]] w fun e w' => e = .returned (.agg #[.int .i64 a]) ∧ Below w.heap.size w w' := by
  go_enter Try.func57, Try.ntmps57
  go_wp2
  exact bodyPost_ret (v := .agg #[.int .i64 a]) (by simp [results, Try.results57, go_sem]) rfl ⟨rfl, (by repeat (first | exact Below.refl _ _ | assumption | refine Below.setCell ?_ (by first | omega | (simp; done) | (simp; omega)) _ | refine Below.alloc ?_ (by first | omega | (simp; done) | (simp; omega)) _ | refine Below.drew ?_ | refine Below.drewN' ?_ _ | refine Below.trans ?_ (Below.mono (by assumption) (by first | omega | (simp; done) | (simp; omega)))))⟩
theorem cmedia_any (a b c : Int) (w : World) : Calls Try.prog 58 #[.agg #[.int .i64 a, .int .i64 b, .int .i64 c]] w fun e w' => e = .returned (.agg #[.int .i64 b]) ∧ Below w.heap.size w w' := by
  go_enter Try.func58, Try.ntmps58
  go_wp2
  exact bodyPost_ret (v := .agg #[.int .i64 b]) (by simp [results, Try.results58, go_sem]) rfl ⟨rfl, (by repeat (first | exact Below.refl _ _ | assumption | refine Below.setCell ?_ (by first | omega | (simp; done) | (simp; omega)) _ | refine Below.alloc ?_ (by first | omega | (simp; done) | (simp; omega)) _ | refine Below.drew ?_ | refine Below.drewN' ?_ _ | refine Below.trans ?_ (Below.mono (by assumption) (by first | omega | (simp; done) | (simp; omega)))))⟩
theorem wsince_any (a b : Int) (w : World) (h1 : -4611686018427387904 ≤ a - b) (h2 : a - b ≤ 4611686018427387904) : Calls Try.prog 52 #[.agg #[.int .i64 a], .agg #[.int .i64 b]] w fun e w' => e = .returned (.int .i64 (a - b)) ∧ Below w.heap.size w w' := by
  go_enter Try.func52, Try.ntmps52
  go_wp2
  go_ret
  exact ⟨rfl, (by repeat (first | exact Below.refl _ _ | assumption | refine Below.setCell ?_ (by first | omega | (simp; done) | (simp; omega)) _ | refine Below.alloc ?_ (by first | omega | (simp; done) | (simp; omega)) _ | refine Below.drew ?_ | refine Below.drewN' ?_ _ | refine Below.trans ?_ (Below.mono (by assumption) (by first | omega | (simp; done) | (simp; omega)))))⟩
theorem msince_any (a b : Int) (w : World) (h1 : -4611686018427387904 ≤ a - b) (h2 : a - b ≤ 4611686018427387904) : Calls Try.prog 53 #[.agg #[.int .i64 a], .agg #[.int .i64 b]] w fun e w' => e = .returned (.int .i64 (a - b)) ∧ Below w.heap.size w w' := by
  go_enter Try.func53, Try.ntmps53
  go_wp2
  go_ret
  exact ⟨rfl, (by repeat (first | exact Below.refl _ _ | assumption | refine Below.setCell ?_ (by first | omega | (simp; done) | (simp; omega)) _ | refine Below.alloc ?_ (by first | omega | (simp; done) | (simp; omega)) _ | refine Below.drew ?_ | refine Below.drewN' ?_ _ | refine Below.trans ?_ (Below.mono (by assumption) (by first | omega | (simp; done) | (simp; omega)))))⟩

theorem mlater_any (a b : Int) (w : World) (h1 : -4611686018427387904 ≤ a + b) (h2 : a + b ≤ 4611686018427387904) : Calls Try.prog 59 #[.agg #[.int .i64 a], .int .i64 b] w fun e w' => e = .returned (.agg #[.int .i64 (a + b)]) ∧ Below w.heap.size w w' := by
  go_enter Try.func59, Try.ntmps59
  go_wp2
  exact bodyPost_ret (v := .agg #[.int .i64 (a + b)]) (by simp [results, Try.results59, go_sem]) rfl ⟨rfl, (by repeat (first | exact Below.refl _ _ | assumption | refine Below.setCell ?_ (by first | omega | (simp; done) | (simp; omega)) _ | refine Below.alloc ?_ (by first | omega | (simp; done) | (simp; omega)) _ | refine Below.drew ?_ | refine Below.drewN' ?_ _ | refine Below.trans ?_ (Below.mono (by assumption) (by first | omega | (simp; done) | (simp; omega)))))⟩
theorem wlater_any (a b : Int) (w : World) (h1 : -4611686018427387904 ≤ a + b) (h2 : a + b ≤ 4611686018427387904) : Calls Try.prog 63 #[.agg #[.int .i64 a], .int .i64 b] w fun e w' => e = .returned (.agg #[.int .i64 (a + b)]) ∧ Below w.heap.size w w' := by
  go_enter Try.func63, Try.ntmps63
  go_wp2
  exact bodyPost_ret (v := .agg #[.int .i64 (a + b)]) (by simp [results, Try.results63, go_sem]) rfl ⟨rfl, (by repeat (first | exact Below.refl _ _ | assumption | refine Below.setCell ?_ (by first | omega | (simp; done) | (simp; omega)) _ | refine Below.alloc ?_ (by first | omega | (simp; done) | (simp; omega)) _ | refine Below.drew ?_ | refine Below.drewN' ?_ _ | refine Below.trans ?_ (Below.mono (by assumption) (by first | omega | (simp; done) | (simp; omega)))))⟩

theorem ediv_bounds {n d : Int} (hd : 1 ≤ d) (h0 : -2305843009213693952 ≤ n) (h1 : n ≤ 2305843009213693952) : -2305843009213693952 ≤ n / d ∧ n / d ≤ 2305843009213693952 := by
  constructor
  · have := Int.ediv_le_ediv (c := d) (by omega) h0
    have h2 : -2305843009213693952 ≤ -2305843009213693952 / d := by
      rw [Int.le_ediv_iff_mul_le (by omega)]
      have : 1 * 2305843009213693952 ≤ d * 2305843009213693952 := Int.mul_le_mul_of_nonneg_right hd (by omega)
      omega
    omega
  · by_cases hn : 0 ≤ n
    · have := Int.ediv_le_self d hn
      omega
    · have : n / d < 0 := Int.ediv_neg_of_neg_of_pos (by omega) (by omega)
      omega

theorem quotDown_any (n d : Int) (w : World) (hd : 1 ≤ d) (h0 : -2305843009213693952 ≤ n) (h1 : n ≤ 2305843009213693952) :
    Calls Try.prog 56 #[.int .i64 n, .int .i64 d] w fun e w' => e = .returned (.int .i64 (n / d)) ∧ w = w' := by
  obtain ⟨b0, b1⟩ := ediv_bounds hd h0 h1
  have hdne : ¬ d = 0 := by omega
  by_cases hn : 0 ≤ n
  · have q0 : decide (n % d < 0) = false := by
      have := Int.emod_nonneg n hdne
      simp; omega
    go_enter Try.func56, Try.ntmps56
    go_wp2
    go_ret
    exact ⟨rfl, rfl⟩
  · by_cases hdv : d ∣ n
    · have e1 : n.tdiv d = n / d := by rw [Int.tdiv_eq_ediv, if_pos (Or.inr hdv)]; omega
      have e2 : n.tmod d = 0 := Int.tmod_eq_zero_of_dvd hdv
      go_enter Try.func56, Try.ntmps56
      go_wp2
      go_ret
      exact ⟨rfl, rfl⟩
    · have e1 : n.tdiv d = n / d + 1 := by
        rw [Int.tdiv_eq_ediv, if_neg (by intro h; rcases h with h | h; exact hn h; exact hdv h), Int.sign_eq_one_of_pos (by omega)]
      have e2 : decide (n.tmod d < 0) = true := by
        have h1 := Int.emod_lt_of_pos n (show 0 < d by omega)
        rw [Int.tmod_eq_emod, if_neg (by intro h; rcases h with h | h; exact hn h; exact hdv h)]
        simp; omega
      go_enter Try.func56, Try.ntmps56
      go_wp2
      go_ret
      exact ⟨ret_int (by omega), rfl⟩

theorem floor_any (n d : Int) (w : World) (hd : 1 ≤ d) (h0 : -2305843009213693952 ≤ n) (h1 : n ≤ 2305843009213693952) :
    Calls Try.prog 68 #[.int .i64 n, .int .i64 d] w fun e w' => e = .returned (.int .i64 (n / d)) ∧ w = w' := by
  obtain ⟨b0, b1⟩ := ediv_bounds hd h0 h1
  have hdne : ¬ d = 0 := by omega
  by_cases hn : 0 ≤ n
  · have q0 : decide (n % d < 0) = false := by
      have := Int.emod_nonneg n hdne
      simp; omega
    go_enter Try.func68, Try.ntmps68
    go_wp2
    go_ret
    exact ⟨rfl, rfl⟩
  · by_cases hdv : d ∣ n
    · have e1 : n.tdiv d = n / d := by rw [Int.tdiv_eq_ediv, if_pos (Or.inr hdv)]; omega
      have e2 : n.tmod d = 0 := Int.tmod_eq_zero_of_dvd hdv
      go_enter Try.func68, Try.ntmps68
      go_wp2
      go_ret
      exact ⟨rfl, rfl⟩
    · have e1 : n.tdiv d = n / d + 1 := by
        rw [Int.tdiv_eq_ediv, if_neg (by intro h; rcases h with h | h; exact hn h; exact hdv h), Int.sign_eq_one_of_pos (by omega)]
      have e2 : decide (n.tmod d < 0) = true := by
        have h1 := Int.emod_lt_of_pos n (show 0 < d by omega)
        rw [Int.tmod_eq_emod, if_neg (by intro h; rcases h with h | h; exact hn h; exact hdv h)]
        simp; omega
      go_enter Try.func68, Try.ntmps68
      go_wp2
      go_ret
      exact ⟨ret_int (by omega), rfl⟩

theorem quotUp_any (n d : Int) (w : World) (hd : 1 ≤ d) (h0 : -2305843009213693952 ≤ n) (h1 : n ≤ 2305843009213693952) :
    Calls Try.prog 62 #[.int .i64 n, .int .i64 d] w fun e w' => e = .returned (.int .i64 (-((-n) / d))) ∧ w = w' := by
  obtain ⟨b0, b1⟩ := ediv_bounds (n := -n) hd (by omega) (by omega)
  go_enter Try.func62, Try.ntmps62
  go_wp2_with fail
  refine (quotDown_any _ _ _ hd (by omega) (by omega)).mono ?_
  rintro e w' ⟨rfl, rfl⟩
  go_wp2
  go_ret
  exact ⟨rfl, rfl⟩

/-- Is a clock valid? -/
def ClockOk (a b c : Int) : Prop := 0 ≤ a ∧ a ≤ 999999 ∧ 0 ≤ b ∧ b ≤ 999999 ∧ 1 ≤ c ∧ c ≤ 999999

set_option maxHeartbeats 1000000 in
theorem cvalid_ok (a b c : Int) (w : World) (h : ClockOk a b c) :
    Calls Try.prog 54 #[.agg #[.int .i64 a, .int .i64 b, .int .i64 c]] w fun e w' => e = .returned (.bool true) ∧ Below w.heap.size w w' := by
  obtain ⟨h1, h2, h3, h4, h5, h6⟩ := h
  have d1 : decide (0 ≤ a) = true := by simpa using h1
  have d2 : decide (a ≤ 999999) = true := by simpa using h2
  have d3 : decide (0 ≤ b) = true := by simpa using h3
  have d4 : decide (b ≤ 999999) = true := by simpa using h4
  have d5 : decide (1 ≤ c) = true := by simpa using h5
  have d6 : decide (c ≤ 999999) = true := by simpa using h6
  go_enter Try.func54, Try.ntmps54
  go_wp2_with (first | (go_at_call 57; refine (cwall_any _ _ _ _).mono ?_; rintro e w1 ⟨rfl, hb1⟩; obtain ⟨k1, f1⟩ := bcell hb1; have s1 := hb1.size; (try simp only [World.size_alloc] at k1 f1 s1); (try have le1 : w.heap.size ≤ w1.heap.size := by omega); (try have lt1 : w.heap.size < w1.heap.size := by omega); (try have lt2 : w.heap.size + 1 < w1.heap.size := by omega); (try have le2 : w.heap.size + 1 ≤ w1.heap.size := by omega)) | (go_at_call 58; refine (cmedia_any _ _ _ _).mono ?_; rintro e w1 ⟨rfl, hb1⟩; obtain ⟨k1, f1⟩ := bcell hb1; have s1 := hb1.size; (try simp only [World.size_alloc] at k1 f1 s1); (try have le1 : w.heap.size ≤ w1.heap.size := by omega); (try have lt1 : w.heap.size < w1.heap.size := by omega); (try have lt2 : w.heap.size + 1 < w1.heap.size := by omega); (try have le2 : w.heap.size + 1 ≤ w1.heap.size := by omega)) | go_in)
  go_ret
  exact ⟨rfl, (by repeat (first | exact Below.refl _ _ | assumption | refine Below.setCell ?_ (by first | omega | (simp; done) | (simp; omega)) _ | refine Below.alloc ?_ (by first | omega | (simp; done) | (simp; omega)) _ | refine Below.drew ?_ | refine Below.drewN' ?_ _ | refine Below.trans ?_ (Below.mono (by assumption) (by first | omega | (simp; done) | (simp; omega)))))⟩

set_option maxHeartbeats 2000000 in
theorem cvalid_no (a b c : Int) (w : World) (h : ¬ ClockOk a b c) :
    Calls Try.prog 54 #[.agg #[.int .i64 a, .int .i64 b, .int .i64 c]] w fun e w' => e = .returned (.bool false) ∧ Below w.heap.size w w' := by
  have hbad : a < 0 ∨ 999999 < a ∨ b < 0 ∨ 999999 < b ∨ c < 1 ∨ 999999 < c := by unfold ClockOk at h; omega
  clear h
  rcases hbad with h | h | h | h | h | h
  · have q : decide (0 ≤ a) = false := by simp; omega
    go_enter Try.func54, Try.ntmps54
    go_wp2_with (first | (go_at_call 57; refine (cwall_any _ _ _ _).mono ?_; rintro e w1 ⟨rfl, hb1⟩; obtain ⟨k1, f1⟩ := bcell hb1; have s1 := hb1.size; (try simp only [World.size_alloc] at k1 f1 s1); (try have le1 : w.heap.size ≤ w1.heap.size := by omega); (try have lt1 : w.heap.size < w1.heap.size := by omega); (try have lt2 : w.heap.size + 1 < w1.heap.size := by omega); (try have le2 : w.heap.size + 1 ≤ w1.heap.size := by omega)) | (go_at_call 58; refine (cmedia_any _ _ _ _).mono ?_; rintro e w1 ⟨rfl, hb1⟩; obtain ⟨k1, f1⟩ := bcell hb1; have s1 := hb1.size; (try simp only [World.size_alloc] at k1 f1 s1); (try have le1 : w.heap.size ≤ w1.heap.size := by omega); (try have lt1 : w.heap.size < w1.heap.size := by omega); (try have lt2 : w.heap.size + 1 < w1.heap.size := by omega); (try have le2 : w.heap.size + 1 ≤ w1.heap.size := by omega)) | go_in)
    all_goals go_ret
    all_goals exact ⟨rfl, (by repeat (first | exact Below.refl _ _ | assumption | refine Below.setCell ?_ (by first | omega | (simp; done) | (simp; omega)) _ | refine Below.alloc ?_ (by first | omega | (simp; done) | (simp; omega)) _ | refine Below.drew ?_ | refine Below.drewN' ?_ _ | refine Below.trans ?_ (Below.mono (by assumption) (by first | omega | (simp; done) | (simp; omega)))))⟩
  · have q : decide (a ≤ 999999) = false := by simp; omega
    go_enter Try.func54, Try.ntmps54
    go_wp2_with (first | (go_at_call 57; refine (cwall_any _ _ _ _).mono ?_; rintro e w1 ⟨rfl, hb1⟩; obtain ⟨k1, f1⟩ := bcell hb1; have s1 := hb1.size; (try simp only [World.size_alloc] at k1 f1 s1); (try have le1 : w.heap.size ≤ w1.heap.size := by omega); (try have lt1 : w.heap.size < w1.heap.size := by omega); (try have lt2 : w.heap.size + 1 < w1.heap.size := by omega); (try have le2 : w.heap.size + 1 ≤ w1.heap.size := by omega)) | (go_at_call 58; refine (cmedia_any _ _ _ _).mono ?_; rintro e w1 ⟨rfl, hb1⟩; obtain ⟨k1, f1⟩ := bcell hb1; have s1 := hb1.size; (try simp only [World.size_alloc] at k1 f1 s1); (try have le1 : w.heap.size ≤ w1.heap.size := by omega); (try have lt1 : w.heap.size < w1.heap.size := by omega); (try have lt2 : w.heap.size + 1 < w1.heap.size := by omega); (try have le2 : w.heap.size + 1 ≤ w1.heap.size := by omega)) | go_in)
    all_goals go_ret
    all_goals exact ⟨rfl, (by repeat (first | exact Below.refl _ _ | assumption | refine Below.setCell ?_ (by first | omega | (simp; done) | (simp; omega)) _ | refine Below.alloc ?_ (by first | omega | (simp; done) | (simp; omega)) _ | refine Below.drew ?_ | refine Below.drewN' ?_ _ | refine Below.trans ?_ (Below.mono (by assumption) (by first | omega | (simp; done) | (simp; omega)))))⟩
  · have q : decide (0 ≤ b) = false := by simp; omega
    go_enter Try.func54, Try.ntmps54
    go_wp2_with (first | (go_at_call 57; refine (cwall_any _ _ _ _).mono ?_; rintro e w1 ⟨rfl, hb1⟩; obtain ⟨k1, f1⟩ := bcell hb1; have s1 := hb1.size; (try simp only [World.size_alloc] at k1 f1 s1); (try have le1 : w.heap.size ≤ w1.heap.size := by omega); (try have lt1 : w.heap.size < w1.heap.size := by omega); (try have lt2 : w.heap.size + 1 < w1.heap.size := by omega); (try have le2 : w.heap.size + 1 ≤ w1.heap.size := by omega)) | (go_at_call 58; refine (cmedia_any _ _ _ _).mono ?_; rintro e w1 ⟨rfl, hb1⟩; obtain ⟨k1, f1⟩ := bcell hb1; have s1 := hb1.size; (try simp only [World.size_alloc] at k1 f1 s1); (try have le1 : w.heap.size ≤ w1.heap.size := by omega); (try have lt1 : w.heap.size < w1.heap.size := by omega); (try have lt2 : w.heap.size + 1 < w1.heap.size := by omega); (try have le2 : w.heap.size + 1 ≤ w1.heap.size := by omega)) | go_in)
    all_goals go_ret
    all_goals exact ⟨rfl, (by repeat (first | exact Below.refl _ _ | assumption | refine Below.setCell ?_ (by first | omega | (simp; done) | (simp; omega)) _ | refine Below.alloc ?_ (by first | omega | (simp; done) | (simp; omega)) _ | refine Below.drew ?_ | refine Below.drewN' ?_ _ | refine Below.trans ?_ (Below.mono (by assumption) (by first | omega | (simp; done) | (simp; omega)))))⟩
  · have q : decide (b ≤ 999999) = false := by simp; omega
    go_enter Try.func54, Try.ntmps54
    go_wp2_with (first | (go_at_call 57; refine (cwall_any _ _ _ _).mono ?_; rintro e w1 ⟨rfl, hb1⟩; obtain ⟨k1, f1⟩ := bcell hb1; have s1 := hb1.size; (try simp only [World.size_alloc] at k1 f1 s1); (try have le1 : w.heap.size ≤ w1.heap.size := by omega); (try have lt1 : w.heap.size < w1.heap.size := by omega); (try have lt2 : w.heap.size + 1 < w1.heap.size := by omega); (try have le2 : w.heap.size + 1 ≤ w1.heap.size := by omega)) | (go_at_call 58; refine (cmedia_any _ _ _ _).mono ?_; rintro e w1 ⟨rfl, hb1⟩; obtain ⟨k1, f1⟩ := bcell hb1; have s1 := hb1.size; (try simp only [World.size_alloc] at k1 f1 s1); (try have le1 : w.heap.size ≤ w1.heap.size := by omega); (try have lt1 : w.heap.size < w1.heap.size := by omega); (try have lt2 : w.heap.size + 1 < w1.heap.size := by omega); (try have le2 : w.heap.size + 1 ≤ w1.heap.size := by omega)) | go_in)
    all_goals go_ret
    all_goals exact ⟨rfl, (by repeat (first | exact Below.refl _ _ | assumption | refine Below.setCell ?_ (by first | omega | (simp; done) | (simp; omega)) _ | refine Below.alloc ?_ (by first | omega | (simp; done) | (simp; omega)) _ | refine Below.drew ?_ | refine Below.drewN' ?_ _ | refine Below.trans ?_ (Below.mono (by assumption) (by first | omega | (simp; done) | (simp; omega)))))⟩
  · have q : decide (1 ≤ c) = false := by simp; omega
    go_enter Try.func54, Try.ntmps54
    go_wp2_with (first | (go_at_call 57; refine (cwall_any _ _ _ _).mono ?_; rintro e w1 ⟨rfl, hb1⟩; obtain ⟨k1, f1⟩ := bcell hb1; have s1 := hb1.size; (try simp only [World.size_alloc] at k1 f1 s1); (try have le1 : w.heap.size ≤ w1.heap.size := by omega); (try have lt1 : w.heap.size < w1.heap.size := by omega); (try have lt2 : w.heap.size + 1 < w1.heap.size := by omega); (try have le2 : w.heap.size + 1 ≤ w1.heap.size := by omega)) | (go_at_call 58; refine (cmedia_any _ _ _ _).mono ?_; rintro e w1 ⟨rfl, hb1⟩; obtain ⟨k1, f1⟩ := bcell hb1; have s1 := hb1.size; (try simp only [World.size_alloc] at k1 f1 s1); (try have le1 : w.heap.size ≤ w1.heap.size := by omega); (try have lt1 : w.heap.size < w1.heap.size := by omega); (try have lt2 : w.heap.size + 1 < w1.heap.size := by omega); (try have le2 : w.heap.size + 1 ≤ w1.heap.size := by omega)) | go_in)
    all_goals go_ret
    all_goals exact ⟨rfl, (by repeat (first | exact Below.refl _ _ | assumption | refine Below.setCell ?_ (by first | omega | (simp; done) | (simp; omega)) _ | refine Below.alloc ?_ (by first | omega | (simp; done) | (simp; omega)) _ | refine Below.drew ?_ | refine Below.drewN' ?_ _ | refine Below.trans ?_ (Below.mono (by assumption) (by first | omega | (simp; done) | (simp; omega)))))⟩
  · have q : decide (c ≤ 999999) = false := by simp; omega
    go_enter Try.func54, Try.ntmps54
    go_wp2_with (first | (go_at_call 57; refine (cwall_any _ _ _ _).mono ?_; rintro e w1 ⟨rfl, hb1⟩; obtain ⟨k1, f1⟩ := bcell hb1; have s1 := hb1.size; (try simp only [World.size_alloc] at k1 f1 s1); (try have le1 : w.heap.size ≤ w1.heap.size := by omega); (try have lt1 : w.heap.size < w1.heap.size := by omega); (try have lt2 : w.heap.size + 1 < w1.heap.size := by omega); (try have le2 : w.heap.size + 1 ≤ w1.heap.size := by omega)) | (go_at_call 58; refine (cmedia_any _ _ _ _).mono ?_; rintro e w1 ⟨rfl, hb1⟩; obtain ⟨k1, f1⟩ := bcell hb1; have s1 := hb1.size; (try simp only [World.size_alloc] at k1 f1 s1); (try have le1 : w.heap.size ≤ w1.heap.size := by omega); (try have lt1 : w.heap.size < w1.heap.size := by omega); (try have lt2 : w.heap.size + 1 < w1.heap.size := by omega); (try have le2 : w.heap.size + 1 ≤ w1.heap.size := by omega)) | go_in)
    all_goals go_ret
    all_goals exact ⟨rfl, (by repeat (first | exact Below.refl _ _ | assumption | refine Below.setCell ?_ (by first | omega | (simp; done) | (simp; omega)) _ | refine Below.alloc ?_ (by first | omega | (simp; done) | (simp; omega)) _ | refine Below.drew ?_ | refine Below.drewN' ?_ _ | refine Below.trans ?_ (Below.mono (by assumption) (by first | omega | (simp; done) | (simp; omega)))))⟩

def cmed (a b c t : Int) : Int := b + (t - a) * c / 1000

set_option maxHeartbeats 2000000 in
theorem cmedia_ok (a b c t : Int) (w : World) (h : ClockOk a b c) (ht0 : 0 ≤ t) (ht1 : t ≤ 999999) :
    Calls Try.prog 25 #[.agg #[.int .i64 a, .int .i64 b, .int .i64 c], .int .i64 t] w fun e w' => e = .returned (.tuple #[.int .i64 (cmed a b c t), .bool true]) ∧ Below w.heap.size w w' := by
  obtain ⟨h1, h2, h3, h4, h5, h6⟩ := id h
  have hm := mul_bd (x := t - a) (y := c) 999999 999999 (by omega) (by omega) (by omega) (by omega) (by omega)
  obtain ⟨hm1, hm2⟩ := hm
  have hd0 : -1000000000 ≤ (t - a) * c / 1000 ∧ (t - a) * c / 1000 ≤ 1000000000 := by omega
  obtain ⟨hd1, hd2⟩ := hd0
  have q1 : decide (0 ≤ t) = true := by simpa using ht0
  have q2 : decide (t ≤ 999999) = true := by simpa using ht1
  go_enter Try.func25, Try.ntmps25
  go_wp2_with fail
  refine (cvalid_ok a b c _ h).mono ?_
  rintro e w2 ⟨rfl, hb2⟩
  obtain ⟨k2, f2⟩ := bcell hb2
  have hs2 := hb2.size
  simp only [World.size_alloc] at k2 f2 hs2
  go_wp2_with (first | (go_at_call 50; go_in) | (go_at_call 40; go_in))
  have hbk : Bk (w2.alloc (.cells #[.int .i64 t] 71)) w.heap.size 40 #[.int .i64 a, .int .i64 b, .int .i64 c] := (((Bk.new w _ _).alloc _).below hb2 (by simp; omega)).alloc _
  have hbt : Bk (w2.alloc (.cells #[.int .i64 t] 71)) (w.heap.size + 1) 71 #[.int .i64 t] := by
    have := Bk.new (w.alloc (.cells #[.int .i64 a, .int .i64 b, .int .i64 c] 40)) 71 #[.int .i64 t]
    rw [World.size_alloc] at this
    exact (this.below hb2 (by simp)).alloc _
  have hb3 : Below w.heap.size w (w2.alloc (.cells #[.int .i64 t] 71)) := (by repeat (first | exact Below.refl _ _ | assumption | refine Below.setCell ?_ (by first | omega | (simp; done) | (simp; omega)) _ | refine Below.alloc ?_ (by first | omega | (simp; done) | (simp; omega)) _ | refine Below.drew ?_ | refine Below.drewN' ?_ _ | refine Below.trans ?_ (Below.mono (by assumption) (by first | omega | (simp; done) | (simp; omega)))))
  clear k2 f2 hs2 hb2
  generalize w2.alloc (.cells #[.int .i64 t] 71) = w3 at *
  have c0 := hbk.cell 0
  have c1 := hbk.cell 1
  have c2 := hbk.cell 2
  have c3 := hbt.cell 0
  simp at c0 c1 c2 c3
  have hk1 := hbk.lt
  have hk2 := hbt.lt
  have d0 := BW.at_ (N := w3.heap.size) c0 hk1
  have d1 := BW.at_ (N := w3.heap.size) c1 hk1
  have d2 := BW.at_ (N := w3.heap.size) c2 hk1
  have d3 := BW.at_ (N := w3.heap.size) c3 hk2
  refine wp_region_below (by kernel_rfl) (by kernel_rfl) ?_
  repeat (any_goals (first | go_big_quiet_step (first | (go_at_call 57; exact BW.calls (Nat.le_refl _) _ (cwall_any _ _ _ _)) | (go_at_call 52; exact BW.calls (Nat.le_refl _) _ (wsince_any _ _ _ (by omega) (by omega))) | (go_at_call 56; exact BW.calls (Nat.le_refl _) _ ((quotDown_any _ _ _ (by omega) (by omega) (by omega)).mono (fun e w' hh => ⟨hh.1, hh.2 ▸ Below.refl _ _⟩)))) | quiet_step (first | (go_at_call 57; exact BW.calls (Nat.le_refl _) _ (cwall_any _ _ _ _)) | (go_at_call 52; exact BW.calls (Nat.le_refl _) _ (wsince_any _ _ _ (by omega) (by omega))) | (go_at_call 56; exact BW.calls (Nat.le_refl _) _ ((quotDown_any _ _ _ (by omega) (by omega) (by omega)).mono (fun e w' hh => ⟨hh.1, hh.2 ▸ Below.refl _ _⟩))))))
  refine wpQuiet_nil ?_
  intro _ hw'
  obtain ⟨xw, hw''⟩ := hw'
  subst hw''
  have hbw := xw.2
  generalize xw.1 = ww at hbw ⊢
  clear xw
  obtain ⟨kw, fw⟩ := bcell hbw
  have sw := hbw.size
  clear d0 d1 d2 d3
  have hfld : ∀ (x : Int) (w : World), (Instr.field 72 (.agg #[.int .i64 x]) 0).run Try.prog w = .ok (.int .i64 x) w := fun _ _ => by kernel_rfl
  go_wp2_with (first | (go_at_call 58; refine (cmedia_any _ _ _ _).mono ?_; rintro e w1 ⟨rfl, hb1⟩; obtain ⟨k1, f1⟩ := bcell hb1; have s1 := hb1.size; (try simp only [World.size_alloc] at k1 f1 s1); (try have le1 : w.heap.size ≤ w1.heap.size := by omega); (try have lt1 : w.heap.size < w1.heap.size := by omega); (try have lt2 : w.heap.size + 1 < w1.heap.size := by omega); (try have le2 : w.heap.size + 1 ≤ w1.heap.size := by omega)) | (go_at_call 59; refine (mlater_any _ _ _ (by omega) (by omega)).mono ?_; rintro e w1 ⟨rfl, hb1⟩; obtain ⟨k1, f1⟩ := bcell hb1; have s1 := hb1.size; (try simp only [World.size_alloc] at k1 f1 s1); (try have le1 : w.heap.size ≤ w1.heap.size := by omega); (try have lt1 : w.heap.size < w1.heap.size := by omega); (try have lt2 : w.heap.size + 1 < w1.heap.size := by omega); (try have le2 : w.heap.size + 1 ≤ w1.heap.size := by omega)))
  go_ret2
  exact ⟨rfl, (by repeat (first | exact Below.refl _ _ | assumption | refine Below.setCell ?_ (by first | omega | (simp; done) | (simp; omega)) _ | refine Below.alloc ?_ (by first | omega | (simp; done) | (simp; omega)) _ | refine Below.drew ?_ | refine Below.drewN' ?_ _ | refine Below.trans ?_ (Below.mono (by assumption) (by first | omega | (simp; done) | (simp; omega)))))⟩

set_option maxHeartbeats 1000000 in
theorem cmedia_no (a b c t : Int) (w : World) (h : ClockOk a b c) (ht0 : t < 0) :
    Calls Try.prog 25 #[.agg #[.int .i64 a, .int .i64 b, .int .i64 c], .int .i64 t] w fun e w' => e = .returned (.tuple #[.int .i64 0, .bool false]) ∧ Below w.heap.size w w' := by
  have q1 : decide (0 ≤ t) = false := by simpa using ht0
  go_enter Try.func25, Try.ntmps25
  go_wp2_with fail
  refine (cvalid_ok a b c _ h).mono ?_
  rintro e w2 ⟨rfl, hb2⟩
  obtain ⟨k2, f2⟩ := bcell hb2
  have hs2 := hb2.size
  simp only [World.size_alloc] at k2 f2 hs2
  go_wp2
  go_ret2
  exact ⟨rfl, (by repeat (first | exact Below.refl _ _ | assumption | refine Below.setCell ?_ (by first | omega | (simp; done) | (simp; omega)) _ | refine Below.alloc ?_ (by first | omega | (simp; done) | (simp; omega)) _ | refine Below.drew ?_ | refine Below.drewN' ?_ _ | refine Below.trans ?_ (Below.mono (by assumption) (by first | omega | (simp; done) | (simp; omega)))))⟩

def WallOk (a b c m : Int) : Prop := ClockOk a b c ∧ 0 ≤ m ∧ m ≤ 999999
def cwallV (a b c m : Int) : Int := a - (b - m) * 1000 / c
theorem cwallV_bd {a b c m : Int} (h : WallOk a b c m) : -2305843009214693952 ≤ cwallV a b c m ∧ cwallV a b c m ≤ 2305843009214693952 := by
  obtain ⟨⟨h1, h2, h3, h4, h5, h6⟩, h7, h8⟩ := h
  have := ediv_bounds (n := (b - m) * 1000) h5 (by omega) (by omega)
  unfold cwallV
  omega

set_option maxHeartbeats 2000000 in
theorem iwall_ok (a b c m : Int) (w : World) (h : WallOk a b c m) :
    Calls Try.prog 28 #[.agg #[.int .i64 a, .int .i64 b, .int .i64 c], .int .i64 m] w fun e w' => e = .returned (.tuple #[.int .i64 (cwallV a b c m), .bool true]) ∧ Below w.heap.size w w' := by
  obtain ⟨h, hm0, hm1⟩ := h
  obtain ⟨h1, h2, h3, h4, h5, h6⟩ := id h
  have heq : -((m - b) * 1000) = (b - m) * 1000 := by omega
  have hbd := ediv_bounds (n := (b - m) * 1000) h5 (by omega) (by omega)
  have HV : Hid (cwallV a b c m = a + -(-((m - b) * 1000) / c)) := by show _ = _; rw [heq]; unfold cwallV; omega
  rw [← heq] at hbd
  obtain ⟨hb1, hb2⟩ := hbd
  clear heq
  have q1 : decide (0 ≤ m) = true := by simpa using hm0
  have q2 : decide (m ≤ 999999) = true := by simpa using hm1
  go_enter Try.func28, Try.ntmps28
  go_wp2_with fail
  refine (cvalid_ok a b c _ h).mono ?_
  rintro e w2 ⟨rfl, hb2⟩
  obtain ⟨k2, f2⟩ := bcell hb2
  have hs2 := hb2.size
  simp only [World.size_alloc] at k2 f2 hs2
  go_wp2_with (first | (go_at_call 51; go_in) | (go_at_call 40; go_in))
  have hbk : Bk (w2.alloc (.cells #[.int .i64 m] 72)) w.heap.size 40 #[.int .i64 a, .int .i64 b, .int .i64 c] := (((Bk.new w _ _).alloc _).below hb2 (by simp; omega)).alloc _
  have hbt : Bk (w2.alloc (.cells #[.int .i64 m] 72)) (w.heap.size + 1) 72 #[.int .i64 m] := by
    have := Bk.new (w.alloc (.cells #[.int .i64 a, .int .i64 b, .int .i64 c] 40)) 72 #[.int .i64 m]
    rw [World.size_alloc] at this
    exact (this.below hb2 (by simp)).alloc _
  have hb3 : Below w.heap.size w (w2.alloc (.cells #[.int .i64 m] 72)) := (by repeat (first | exact Below.refl _ _ | assumption | refine Below.setCell ?_ (by first | omega | (simp; done) | (simp; omega)) _ | refine Below.alloc ?_ (by first | omega | (simp; done) | (simp; omega)) _ | refine Below.drew ?_ | refine Below.drewN' ?_ _ | refine Below.trans ?_ (Below.mono (by assumption) (by first | omega | (simp; done) | (simp; omega)))))
  clear k2 f2 hs2 hb2
  generalize w2.alloc (.cells #[.int .i64 m] 72) = w3 at *
  have c0 := hbk.cell 0
  have c1 := hbk.cell 1
  have c2 := hbk.cell 2
  have c3 := hbt.cell 0
  simp at c0 c1 c2 c3
  have hk1 := hbk.lt
  have hk2 := hbt.lt
  have d0 := BW.at_ (N := w3.heap.size) c0 hk1
  have d1 := BW.at_ (N := w3.heap.size) c1 hk1
  have d2 := BW.at_ (N := w3.heap.size) c2 hk1
  have d3 := BW.at_ (N := w3.heap.size) c3 hk2
  refine wp_region_below (by kernel_rfl) (by kernel_rfl) ?_
  repeat (any_goals (first | go_big_quiet_step (first | (go_at_call 58; exact BW.calls (Nat.le_refl _) _ (cmedia_any _ _ _ _)) | (go_at_call 53; exact BW.calls (Nat.le_refl _) _ (msince_any _ _ _ (by omega) (by omega))) | (go_at_call 62; exact BW.calls (Nat.le_refl _) _ (same_below (quotUp_any _ _ _ (by omega) (by omega) (by omega))))) | quiet_step (first | (go_at_call 58; exact BW.calls (Nat.le_refl _) _ (cmedia_any _ _ _ _)) | (go_at_call 53; exact BW.calls (Nat.le_refl _) _ (msince_any _ _ _ (by omega) (by omega))) | (go_at_call 62; exact BW.calls (Nat.le_refl _) _ (same_below (quotUp_any _ _ _ (by omega) (by omega) (by omega)))))))
  refine wpQuiet_nil ?_
  intro _ hw'
  obtain ⟨xw, hw''⟩ := hw'
  subst hw''
  have hbw := xw.2
  generalize xw.1 = ww at hbw ⊢
  clear xw
  obtain ⟨kw, fw⟩ := bcell hbw
  have sw := hbw.size
  clear d0 d1 d2 d3
  have hfld : ∀ (x : Int) (w : World), (Instr.field 71 (.agg #[.int .i64 x]) 0).run Try.prog w = .ok (.int .i64 x) w := fun _ _ => by kernel_rfl
  go_wp2_with (first | (go_at_call 57; refine (cwall_any _ _ _ _).mono ?_; rintro e w1 ⟨rfl, hb1⟩; obtain ⟨k1, f1⟩ := bcell hb1; have s1 := hb1.size; (try simp only [World.size_alloc] at k1 f1 s1); (try have le1 : w.heap.size ≤ w1.heap.size := by omega); (try have lt1 : w.heap.size < w1.heap.size := by omega); (try have lt2 : w.heap.size + 1 < w1.heap.size := by omega); (try have le2 : w.heap.size + 1 ≤ w1.heap.size := by omega)) | (go_at_call 63; refine (wlater_any _ _ _ (by omega) (by omega)).mono ?_; rintro e w1 ⟨rfl, hb1⟩; obtain ⟨k1, f1⟩ := bcell hb1; have s1 := hb1.size; (try simp only [World.size_alloc] at k1 f1 s1); (try have le1 : w.heap.size ≤ w1.heap.size := by omega); (try have lt1 : w.heap.size < w1.heap.size := by omega); (try have lt2 : w.heap.size + 1 < w1.heap.size := by omega); (try have le2 : w.heap.size + 1 ≤ w1.heap.size := by omega)))
  go_ret2
  exact ⟨by rw [HV.out]; rfl, (by repeat (first | exact Below.refl _ _ | assumption | refine Below.setCell ?_ (by first | omega | (simp; done) | (simp; omega)) _ | refine Below.alloc ?_ (by first | omega | (simp; done) | (simp; omega)) _ | refine Below.drew ?_ | refine Below.drewN' ?_ _ | refine Below.trans ?_ (Below.mono (by assumption) (by first | omega | (simp; done) | (simp; omega)))))⟩

set_option maxHeartbeats 2000000 in
theorem iwall_no (a b c m : Int) (w : World) (h : ¬ WallOk a b c m) :
    Calls Try.prog 28 #[.agg #[.int .i64 a, .int .i64 b, .int .i64 c], .int .i64 m] w fun e w' => e = .returned (.tuple #[.int .i64 0, .bool false]) ∧ Below w.heap.size w w' := by
  by_cases hc : ClockOk a b c
  · by_cases hm : 0 ≤ m
    · have q1 : decide (0 ≤ m) = true := by simpa using hm
      have q2 : decide (m ≤ 999999) = false := by
        simp
        rcases Int.lt_or_le 999999 m with h1 | h1
        · exact h1
        · exact (h ⟨hc, hm, h1⟩).elim
      go_enter Try.func28, Try.ntmps28
      go_wp2_with fail
      refine (cvalid_ok a b c _ hc).mono ?_
      rintro e w2 ⟨rfl, hb2⟩
      obtain ⟨k2, f2⟩ := bcell hb2
      have hs2 := hb2.size
      simp only [World.size_alloc] at k2 f2 hs2
      go_wp2
      go_ret2
      exact ⟨rfl, (by repeat (first | exact Below.refl _ _ | assumption | refine Below.setCell ?_ (by first | omega | (simp; done) | (simp; omega)) _ | refine Below.alloc ?_ (by first | omega | (simp; done) | (simp; omega)) _ | refine Below.drew ?_ | refine Below.drewN' ?_ _ | refine Below.trans ?_ (Below.mono (by assumption) (by first | omega | (simp; done) | (simp; omega)))))⟩
    · have q1 : decide (0 ≤ m) = false := by simpa using hm
      go_enter Try.func28, Try.ntmps28
      go_wp2_with fail
      refine (cvalid_ok a b c _ hc).mono ?_
      rintro e w2 ⟨rfl, hb2⟩
      obtain ⟨k2, f2⟩ := bcell hb2
      have hs2 := hb2.size
      simp only [World.size_alloc] at k2 f2 hs2
      go_wp2
      go_ret2
      exact ⟨rfl, (by repeat (first | exact Below.refl _ _ | assumption | refine Below.setCell ?_ (by first | omega | (simp; done) | (simp; omega)) _ | refine Below.alloc ?_ (by first | omega | (simp; done) | (simp; omega)) _ | refine Below.drew ?_ | refine Below.drewN' ?_ _ | refine Below.trans ?_ (Below.mono (by assumption) (by first | omega | (simp; done) | (simp; omega)))))⟩
  · go_enter Try.func28, Try.ntmps28
    go_wp2_with fail
    refine (cvalid_no a b c _ hc).mono ?_
    rintro e w2 ⟨rfl, hb2⟩
    go_wp2
    go_ret2
    exact ⟨rfl, (by repeat (first | exact Below.refl _ _ | assumption | refine Below.setCell ?_ (by first | omega | (simp; done) | (simp; omega)) _ | refine Below.alloc ?_ (by first | omega | (simp; done) | (simp; omega)) _ | refine Below.drew ?_ | refine Below.drewN' ?_ _ | refine Below.trans ?_ (Below.mono (by assumption) (by first | omega | (simp; done) | (simp; omega)))))⟩
end Go.Proofs.Ytambjhapnhmmmaa
