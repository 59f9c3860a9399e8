/-
  What the functions of the chapter on scores, and the draws for them, give.
  Conditions: the arguments' ranges, as each theorem states them.
-/
import Derived.Test.YteicphhkehhaaaaRows
import Derived.Test.YteicphhkehhaaaaLib
import Derived.Test.YteicphhkehhaaaaDraw
namespace Go.Proofs.Yteicphhkehhaaaa
open Go.RowKit
set_option linter.unusedVariables false

/-- A score of valid arguments. -/
def scoreOf (p d s : Int) : Int := max (100 - 100 * p / 128 - min (d / 10) 30 - 5 * min s 5) 0

theorem scoreOf_range {p d s : Int} (h1 : 0 ≤ p) (h3 : 0 ≤ d) (h5 : 0 ≤ s) : 0 ≤ scoreOf p d s ∧ scoreOf p d s ≤ 100 := by
  unfold scoreOf; omega
theorem scoreOf_zero : scoreOf 0 0 0 = 100 := by decide
theorem scoreOf_half {p d s : Int} (h1 : 128 ≤ p) (h3 : 0 ≤ d) (h5 : 0 ≤ s) : scoreOf p d s = 0 := by
  unfold scoreOf; omega
theorem scoreOf_part {p d s : Int} : scoreOf (p + 1) d s ≤ scoreOf p d s := by
  unfold scoreOf; omega
theorem scoreOf_differ {p d s : Int} : scoreOf p (d + 1) s ≤ scoreOf p d s := by
  unfold scoreOf; omega
theorem scoreOf_stops {p d s : Int} : scoreOf p d (s + 1) ≤ scoreOf p d s := by
  unfold scoreOf; omega

/-- Are the arguments of a score valid? -/
def ScoreOk (p d s : Int) : Prop := 0 ≤ p ∧ p ≤ 256 ∧ 0 ≤ d ∧ d ≤ 999999 ∧ 0 ≤ s ∧ s ≤ 999999

set_option maxHeartbeats 400000 in
theorem spec_score_ok (p d s : Int) (w : World) (h : ScoreOk p d s) :
    Calls Try.prog 13 #[.int .i64 p, .int .i64 d, .int .i64 s] w fun e w' => e = .returned (.int .i64 (scoreOf p d s)) ∧ w = w' := by
  obtain ⟨h1, h2, h3, h4, h5, h6⟩ := h
  go_enter Try.func13, Try.ntmps13
  go_wp2
  all_goals go_ret
  all_goals exact ⟨ret_int (by unfold scoreOf; omega), rfl⟩

set_option maxHeartbeats 400000 in
theorem impl_score_ok (p d s : Int) (w : World) (h : ScoreOk p d s) :
    Calls Try.prog 14 #[.int .i64 p, .int .i64 d, .int .i64 s] w fun e w' => e = .returned (.int .i64 (scoreOf p d s)) ∧ w = w' := by
  obtain ⟨h1, h2, h3, h4, h5, h6⟩ := h
  go_enter Try.func14, Try.ntmps14
  go_wp2
  all_goals go_ret
  all_goals exact ⟨ret_int (by unfold scoreOf; omega), rfl⟩

set_option maxHeartbeats 400000 in
theorem spec_score_bad (p d s : Int) (w : World) (h : ¬ ScoreOk p d s) :
    Calls Try.prog 13 #[.int .i64 p, .int .i64 d, .int .i64 s] w fun e w' => e = .returned (.int .i64 (-1)) ∧ w = w' := by
  have hbad : p < 0 ∨ 256 < p ∨ d < 0 ∨ 999999 < d ∨ s < 0 ∨ 999999 < s := by unfold ScoreOk at h; omega
  clear h
  rcases hbad with h | h | h | h | h | h
  · have q : decide (0 ≤ p) = false := by simp; omega
    go_enter Try.func13, Try.ntmps13
    go_wp2
    all_goals go_ret
    all_goals exact ⟨rfl, rfl⟩
  · have q : decide (p ≤ 256) = false := by simp; omega
    go_enter Try.func13, Try.ntmps13
    go_wp2
    all_goals go_ret
    all_goals exact ⟨rfl, rfl⟩
  · have q : decide (0 ≤ d) = false := by simp; omega
    go_enter Try.func13, Try.ntmps13
    go_wp2
    all_goals go_ret
    all_goals exact ⟨rfl, rfl⟩
  · have q : decide (d ≤ 999999) = false := by simp; omega
    go_enter Try.func13, Try.ntmps13
    go_wp2
    all_goals go_ret
    all_goals exact ⟨rfl, rfl⟩
  · have q : decide (0 ≤ s) = false := by simp; omega
    go_enter Try.func13, Try.ntmps13
    go_wp2
    all_goals go_ret
    all_goals exact ⟨rfl, rfl⟩
  · have q : decide (s ≤ 999999) = false := by simp; omega
    go_enter Try.func13, Try.ntmps13
    go_wp2
    all_goals go_ret
    all_goals exact ⟨rfl, rfl⟩

set_option maxHeartbeats 400000 in
theorem impl_score_bad (p d s : Int) (w : World) (h : ¬ ScoreOk p d s) :
    Calls Try.prog 14 #[.int .i64 p, .int .i64 d, .int .i64 s] w fun e w' => e = .returned (.int .i64 (-1)) ∧ w = w' := by
  have hbad : p < 0 ∨ 256 < p ∨ d < 0 ∨ 999999 < d ∨ s < 0 ∨ 999999 < s := by unfold ScoreOk at h; omega
  clear h
  rcases hbad with h | h | h | h | h | h
  · have q : decide (p < 0) = true := by simp; omega
    go_enter Try.func14, Try.ntmps14
    go_wp2
    all_goals go_ret
    all_goals exact ⟨rfl, rfl⟩
  · have q : decide (256 < p) = true := by simp; omega
    go_enter Try.func14, Try.ntmps14
    go_wp2
    all_goals go_ret
    all_goals exact ⟨rfl, rfl⟩
  · have q : decide (0 ≤ d) = false := by simp; omega
    go_enter Try.func14, Try.ntmps14
    go_wp2
    all_goals go_ret
    all_goals exact ⟨rfl, rfl⟩
  · have q : decide (d ≤ 999999) = false := by simp; omega
    go_enter Try.func14, Try.ntmps14
    go_wp2
    all_goals go_ret
    all_goals exact ⟨rfl, rfl⟩
  · have q : decide (0 ≤ s) = false := by simp; omega
    go_enter Try.func14, Try.ntmps14
    go_wp2
    all_goals go_ret
    all_goals exact ⟨rfl, rfl⟩
  · have q : decide (s ≤ 999999) = false := by simp; omega
    go_enter Try.func14, Try.ntmps14
    go_wp2
    all_goals go_ret
    all_goals exact ⟨rfl, rfl⟩

/-- Of valid arguments both have 'scoreOf', of others both -1. -/
theorem score_any (p d s : Int) : ∃ r : Int, ((ScoreOk p d s ∧ r = scoreOf p d s) ∨ (¬ ScoreOk p d s ∧ r = -1)) ∧
    (∀ w, Calls Try.prog 13 #[.int .i64 p, .int .i64 d, .int .i64 s] w fun e w' => e = .returned (.int .i64 r) ∧ w = w') ∧
    (∀ w, Calls Try.prog 14 #[.int .i64 p, .int .i64 d, .int .i64 s] w fun e w' => e = .returned (.int .i64 r) ∧ w = w') := by
  by_cases h : ScoreOk p d s
  · exact ⟨_, .inl ⟨h, rfl⟩, fun w => spec_score_ok p d s w h, fun w => impl_score_ok p d s w h⟩
  · exact ⟨_, .inr ⟨h, rfl⟩, fun w => spec_score_bad p d s w h, fun w => impl_score_bad p d s w h⟩

theorem impl_score_zero (w : World) : Calls Try.prog 14 #[.int .i64 0, .int .i64 0, .int .i64 0] w fun e w' => e = .returned (.int .i64 100) ∧ w = w' := by
  have h := impl_score_ok 0 0 0 w (by unfold ScoreOk; omega)
  rw [scoreOf_zero] at h
  exact h

/-! ### Draws -/
set_option maxHeartbeats 400000 in
theorem draw_name (A : Option Addr) (n c : Nat) (w : World) (h : Bytes w w.heap.size A n) (hnc : n ≤ c) (hc : c ≤ maxLen) :
    Calls Try.prog 17 #[.slice A n c] w fun e w' => ∃ s : Int, e = .returned (.int .i64 s) ∧ -1 ≤ s ∧ s ≤ 103 ∧ Below w.heap.size w w' := by
  go_enter Try.func17, Try.ntmps17
  go_wp2_with fail
  refine (open_any A n c _ h hnc hc).mono ?_
  rintro e w1 ⟨rfl, hrd, hb⟩
  go_wp2_with fail
  refine (pick_any _ _ _ _ _ hrd (by omega) (by omega)).mono ?_
  rintro e w2 ⟨r, rfl, h0, h1, hrd2, ho, hsz⟩
  have h1' := h1 (by omega)
  go_wp2
  go_ret
  exact ⟨_, rfl, by omega, by omega, hb.trans (ho.below (Nat.le_refl _) hb.size)⟩

set_option maxHeartbeats 1000000 in
theorem part_any (B g K : Nat) (w : World) (h : Rd w B g K) (hK : K ≤ 1099511627000) :
    Calls Try.prog 29 #[.pointer (some ⟨g, 0, none⟩)] w fun e w' => ∃ r : Int, e = .returned (.int .i64 r) ∧ -1 ≤ r ∧ r ≤ 257 ∧ Rd w' B g (K + 2) ∧ Only g w w' := by
  go_enter Try.func29, Try.ntmps29
  go_wp2_with fail
  refine (pick_any _ _ _ _ _ h (by omega) (by omega)).mono ?_
  rintro e w2 ⟨r, rfl, h0, h1, hrd2, ho, hsz⟩
  have h1' := h1 (by omega)
  have fin : ∀ (w3 : World) (r : Int), -1 ≤ r → r ≤ 257 → Rd w3 B g (K + 2) → Only g w2 w3 → ∃ r' : Int, Ending.returned (.int .i64 r) = .returned (.int .i64 r') ∧ -1 ≤ r' ∧ r' ≤ 257 ∧ Rd w3 B g (K + 2) ∧ Only g w w3 :=
    fun w3 r a1 a2 a3 a4 => ⟨r, rfl, a1, a2, a3, ho.trans a4⟩
  by_cases hr0 : r = 0
  · subst hr0
    go_wp2_with fail
    have hnew := Bk.new w2 3 #[.int .i64 (-1), .int .i64 0, .int .i64 4, .int .i64 5, .int .i64 25, .int .i64 26, .int .i64 256, .int .i64 257]
    have hall := fun o => (Below.refl w2.heap.size w2).alloc (Nat.le_refl _) o
    refine (pick_any _ _ _ _ _ (hrd2.below (hall _)) (by omega) (by omega)).mono ?_
    rintro e w3 ⟨q, rfl, q0, q1, hrd3, ho3, hsz3⟩
    have q1' := q1 (by omega)
    obtain ⟨k, rfl⟩ := Int.eq_ofNat_of_zero_le q0
    obtain ⟨z, hz, z0, z1⟩ := lit_cell [-1, 0, 4, 5, 25, 26, 256, 257] (-1) 257 (hnew.only ho3 (by have := hrd2.lt; omega)) (by decide) (k := k) (by simp; omega)
    go_wp2
    go_ret
    exact fin _ _ (by omega) (by omega) hrd3 ((Only.of_below (hall _)).trans ho3)
  · by_cases hr1 : r = 1 ∨ r = 2
    · have e0 : (r == 0) = false := by simpa using hr0
      rcases hr1 with e1 | e1
      all_goals
        subst e1
        go_wp2_with fail
        refine (pick_any _ _ _ _ _ hrd2 (by omega) (by omega)).mono ?_
        rintro e w3 ⟨q, rfl, q0, q1, hrd3, ho3, hsz3⟩
        have q1' := q1 (by omega)
        go_wp2
        go_ret
        exact fin _ _ (by omega) (by omega) hrd3 ho3
    · have e0 : (r == 0) = false := by simpa using hr0
      have e1 : (r == 1) = false := by simp; omega
      have e2 : (r == 2) = false := by simp; omega
      go_wp2_with fail
      refine (pick_any _ _ _ _ _ hrd2 (by omega) (by omega)).mono ?_
      rintro e w3 ⟨q, rfl, q0, q1, hrd3, ho3, hsz3⟩
      have q1' := q1 (by omega)
      go_wp2
      go_ret
      exact fin _ _ (by omega) (by omega) hrd3 ho3

set_option maxHeartbeats 400000 in
theorem draw_score (A : Option Addr) (n c : Nat) (w : World) (h : Bytes w w.heap.size A n) (hnc : n ≤ c) (hc : c ≤ maxLen) :
    Calls Try.prog 22 #[.slice A n c] w fun e w' => ∃ p d s : Int, e = .returned (.tuple #[.int .i64 p, .int .i64 d, .int .i64 s]) ∧ -1 ≤ p ∧ p ≤ 257 ∧ -600 ≤ d ∧ d ≤ 498 ∧ 0 ≤ s ∧ s ≤ 7 ∧ Below w.heap.size w w' := by
  go_enter Try.func22, Try.ntmps22
  go_wp2_with fail
  refine (open_any A n c _ h hnc hc).mono ?_
  rintro e w1 ⟨rfl, hrd, hb⟩
  go_wp2_with fail
  refine (part_any _ _ _ _ hrd (by omega)).mono ?_
  rintro e w2 ⟨p, rfl, hp0, hp1, hrd2, ho2⟩
  go_wp2_with fail
  refine (pick_any _ _ _ _ _ hrd2 (by omega) (by omega)).mono ?_
  rintro e w3 ⟨a, rfl, ha0, ha1, hrd3, ho3, hsz3⟩
  have ha1' := ha1 (by omega)
  go_wp2_with fail
  refine (pick_any _ _ _ _ _ hrd3 (by omega) (by omega)).mono ?_
  rintro e w4 ⟨b, rfl, hb0, hb1, hrd4, ho4, hsz4⟩
  have hb1' := hb1 (by omega)
  go_wp2_with fail
  refine (pick_any _ _ _ _ _ hrd4 (by omega) (by omega)).mono ?_
  rintro e w5 ⟨s, rfl, hs0, hs1, hrd5, ho5, hsz5⟩
  have hs1' := hs1 (by omega)
  go_wp2
  go_ret3
  have hB := hb.trans ((((ho2.trans ho3).trans ho4).trans ho5).below (Nat.le_refl _) hb.size)
  exact ⟨p, _, s, rfl, hp0, hp1, by omega, by omega, hs0, by omega, hB⟩
end Go.Proofs.Yteicphhkehhaaaa
