/-
  StatsPut of the program.
  Conditions: as each theorem states them.
-/
import Derived.Test.YtambjhapnhmmmaaRows
import Derived.Test.YtambjhapnhmmmaaLib
import Derived.Test.YtambjhapnhmmmaaDraw
import Derived.Test.YtambjhapnhmmmaaStats
import Derived.Test.YtambjhapnhmmmaaStatsB
namespace Go.Proofs.Ytambjhapnhmmmaa
open Go.RowKit
set_option linter.unusedVariables false
set_option linter.unusedSimpArgs false

theorem itrip_any (t cm : Int) (w : World) (h1 : -4611686018427387904 ≤ cm - t) (h2 : cm - t ≤ 4611686018427387904) :
    Calls Try.prog 49 #[.agg #[.int .i64 t, .int .i64 cm]] w fun x w' => x = .returned (.int .i64 (cm - t)) ∧ w' = w.alloc (.cells #[.int .i64 t, .int .i64 cm] 64) := by
  go_enter Try.func49, Try.ntmps49
  go_wp2
  go_ret
  exact ⟨rfl, rfl⟩
theorem itrip_below (t cm : Int) (w : World) (h1 : -4611686018427387904 ≤ cm - t) (h2 : cm - t ≤ 4611686018427387904) :
    Calls Try.prog 49 #[.agg #[.int .i64 t, .int .i64 cm]] w fun x w' => x = .returned (.int .i64 (cm - t)) ∧ Below w.heap.size w w' :=
  (itrip_any t cm w h1 h2).mono fun _ _ ⟨h, hw⟩ => ⟨h, by subst hw; exact (Below.refl _ _).alloc (Nat.le_refl _) _⟩

set_option maxHeartbeats 4000000 in
theorem iput_out (a b c d e wd t cm : Int) (w : World) (h : ¬ PutIn a b c d e wd t cm) :
    Calls Try.prog 20 #[.agg #[.int .i64 a, .int .i64 b, .int .i64 c, .int .i64 d, .int .i64 e], .int .i64 wd, .int .i64 t, .int .i64 cm] w (putBad w) := by
  have hv := fun w => istv_any a b c d e w
  have hl := fun w => newArr_any wd t cm w
  have fin : (stB a b c d e = true → wtB wd t cm = true → ¬ a ≤ wd) := by
    intro h1 h2 h3
    exact h ⟨of_decide_eq_true h1, of_decide_eq_true h2, h3⟩
  clear h
  cases q1 : wtB wd t cm
  · rw [q1] at hl
    clear fin hv
    have hS := (Bk.new w 31 #[.int .i64 a, .int .i64 b, .int .i64 c, .int .i64 d, .int .i64 e]).alloc (.cells #[.int .i64 0, .int .i64 0, .int .i64 0, .int .i64 0, .int .i64 0] 31)
    have hR := Bk.new (w.alloc (.cells #[.int .i64 a, .int .i64 b, .int .i64 c, .int .i64 d, .int .i64 e] 31)) 31 #[.int .i64 0, .int .i64 0, .int .i64 0, .int .i64 0, .int .i64 0]
    rw [World.size_alloc] at hR
    go_enter Try.func20, Try.ntmps20
    go_wp2_with fail
    refine (hl _).mono ?_
    rintro x w1 ⟨rfl, hb1⟩
    have hB1 : Below w.heap.size w w1 := (by repeat (first | exact Below.refl _ _ | assumption | refine Below.setCell ?_ (by first | omega | (simp; done) | (simp; omega)) _ | refine Below.alloc ?_ (by first | omega | (simp; done) | (simp; omega)) _ | refine Below.drew ?_ | refine Below.drewN' ?_ _ | refine Below.trans ?_ (Below.mono (by assumption) (by first | omega | (simp; done) | (simp; omega)))))
    have s1 := hB1.size
    replace hS := hS.below hb1 (by first | omega | (simp; done) | (simp; omega))
    (try clear hS_c0); (try clear hS_f0)
    (try clear hS_c1); (try clear hS_f1)
    (try clear hS_c2); (try clear hS_f2)
    (try clear hS_c3); (try clear hS_f3)
    (try clear hS_c4); (try clear hS_f4)
    (try clear hS_lt)
    have hS_lt := hS.lt; (try simp only [World.size_alloc] at hS_lt)
    have hS_c0 := hS.cell 0; have hS_f0 := hS.frozen 0
    have hS_c1 := hS.cell 1; have hS_f1 := hS.frozen 1
    have hS_c2 := hS.cell 2; have hS_f2 := hS.frozen 2
    have hS_c3 := hS.cell 3; have hS_f3 := hS.frozen 3
    have hS_c4 := hS.cell 4; have hS_f4 := hS.frozen 4
    simp only [List.getElem?_toArray, List.getElem?_cons_zero, List.getElem?_cons_succ] at hS_c0 hS_c1 hS_c2 hS_c3 hS_c4
    replace hR := hR.below hb1 (by first | omega | (simp; done) | (simp; omega))
    (try clear hR_c0); (try clear hR_f0)
    (try clear hR_c1); (try clear hR_f1)
    (try clear hR_c2); (try clear hR_f2)
    (try clear hR_c3); (try clear hR_f3)
    (try clear hR_c4); (try clear hR_f4)
    (try clear hR_lt)
    have hR_lt := hR.lt; (try simp only [World.size_alloc] at hR_lt)
    have hR_c0 := hR.cell 0; have hR_f0 := hR.frozen 0
    have hR_c1 := hR.cell 1; have hR_f1 := hR.frozen 1
    have hR_c2 := hR.cell 2; have hR_f2 := hR.frozen 2
    have hR_c3 := hR.cell 3; have hR_f3 := hR.frozen 3
    have hR_c4 := hR.cell 4; have hR_f4 := hR.frozen 4
    simp only [List.getElem?_toArray, List.getElem?_cons_zero, List.getElem?_cons_succ] at hR_c0 hR_c1 hR_c2 hR_c3 hR_c4
    go_wp2
    refine ⟨rfl, ?_⟩
    apply Exists.intro
    apply And.intro
    · simp [results, Try.results20, go_sem, hR_c0, hR_c1, hR_c2, hR_c3, hR_c4, hR_lt]; exact rfl
    · exact ⟨rfl, (by repeat (first | exact Below.refl _ _ | assumption | refine Below.setCell ?_ (by first | omega | (simp; done) | (simp; omega)) _ | refine Below.alloc ?_ (by first | omega | (simp; done) | (simp; omega)) _ | refine Below.drew ?_ | refine Below.drewN' ?_ _ | refine Below.trans ?_ (Below.mono (by assumption) (by first | omega | (simp; done) | (simp; omega)))))⟩
  · rw [q1] at hl
    cases q2 : stB a b c d e
    · rw [q2] at hv
      clear fin
      have hS := (Bk.new w 31 #[.int .i64 a, .int .i64 b, .int .i64 c, .int .i64 d, .int .i64 e]).alloc (.cells #[.int .i64 0, .int .i64 0, .int .i64 0, .int .i64 0, .int .i64 0] 31)
      have hR := Bk.new (w.alloc (.cells #[.int .i64 a, .int .i64 b, .int .i64 c, .int .i64 d, .int .i64 e] 31)) 31 #[.int .i64 0, .int .i64 0, .int .i64 0, .int .i64 0, .int .i64 0]
      rw [World.size_alloc] at hR
      go_enter Try.func20, Try.ntmps20
      go_wp2_with fail
      refine (hl _).mono ?_
      rintro x w1 ⟨rfl, hb1⟩
      have hB1 : Below w.heap.size w w1 := (by repeat (first | exact Below.refl _ _ | assumption | refine Below.setCell ?_ (by first | omega | (simp; done) | (simp; omega)) _ | refine Below.alloc ?_ (by first | omega | (simp; done) | (simp; omega)) _ | refine Below.drew ?_ | refine Below.drewN' ?_ _ | refine Below.trans ?_ (Below.mono (by assumption) (by first | omega | (simp; done) | (simp; omega)))))
      have s1 := hB1.size
      replace hS := hS.below hb1 (by first | omega | (simp; done) | (simp; omega))
      (try clear hS_c0); (try clear hS_f0)
      (try clear hS_c1); (try clear hS_f1)
      (try clear hS_c2); (try clear hS_f2)
      (try clear hS_c3); (try clear hS_f3)
      (try clear hS_c4); (try clear hS_f4)
      (try clear hS_lt)
      have hS_lt := hS.lt; (try simp only [World.size_alloc] at hS_lt)
      have hS_c0 := hS.cell 0; have hS_f0 := hS.frozen 0
      have hS_c1 := hS.cell 1; have hS_f1 := hS.frozen 1
      have hS_c2 := hS.cell 2; have hS_f2 := hS.frozen 2
      have hS_c3 := hS.cell 3; have hS_f3 := hS.frozen 3
      have hS_c4 := hS.cell 4; have hS_f4 := hS.frozen 4
      simp only [List.getElem?_toArray, List.getElem?_cons_zero, List.getElem?_cons_succ] at hS_c0 hS_c1 hS_c2 hS_c3 hS_c4
      replace hR := hR.below hb1 (by first | omega | (simp; done) | (simp; omega))
      (try clear hR_c0); (try clear hR_f0)
      (try clear hR_c1); (try clear hR_f1)
      (try clear hR_c2); (try clear hR_f2)
      (try clear hR_c3); (try clear hR_f3)
      (try clear hR_c4); (try clear hR_f4)
      (try clear hR_lt)
      have hR_lt := hR.lt; (try simp only [World.size_alloc] at hR_lt)
      have hR_c0 := hR.cell 0; have hR_f0 := hR.frozen 0
      have hR_c1 := hR.cell 1; have hR_f1 := hR.frozen 1
      have hR_c2 := hR.cell 2; have hR_f2 := hR.frozen 2
      have hR_c3 := hR.cell 3; have hR_f3 := hR.frozen 3
      have hR_c4 := hR.cell 4; have hR_f4 := hR.frozen 4
      simp only [List.getElem?_toArray, List.getElem?_cons_zero, List.getElem?_cons_succ] at hR_c0 hR_c1 hR_c2 hR_c3 hR_c4
      go_wp2_with fail
      refine (hv _).mono ?_
      rintro x w2 ⟨rfl, hb2⟩
      have hB2 : Below w.heap.size w w2 := (by repeat (first | exact Below.refl _ _ | assumption | refine Below.setCell ?_ (by first | omega | (simp; done) | (simp; omega)) _ | refine Below.alloc ?_ (by first | omega | (simp; done) | (simp; omega)) _ | refine Below.drew ?_ | refine Below.drewN' ?_ _ | refine Below.trans ?_ (Below.mono (by assumption) (by first | omega | (simp; done) | (simp; omega)))))
      have s2 := hB2.size
      have hN := (Bk.new w1 66 #[.int .i64 t, .int .i64 cm, .int .i64 wd]).below hb2 (by simp)
      replace hS := hS.alloc (.cells #[.int .i64 t, .int .i64 cm, .int .i64 wd] 66)
      replace hR := hR.alloc (.cells #[.int .i64 t, .int .i64 cm, .int .i64 wd] 66)
      replace hS := hS.below hb2 (by first | omega | (simp; done) | (simp; omega))
      (try clear hS_c0); (try clear hS_f0)
      (try clear hS_c1); (try clear hS_f1)
      (try clear hS_c2); (try clear hS_f2)
      (try clear hS_c3); (try clear hS_f3)
      (try clear hS_c4); (try clear hS_f4)
      (try clear hS_lt)
      have hS_lt := hS.lt; (try simp only [World.size_alloc] at hS_lt)
      have hS_c0 := hS.cell 0; have hS_f0 := hS.frozen 0
      have hS_c1 := hS.cell 1; have hS_f1 := hS.frozen 1
      have hS_c2 := hS.cell 2; have hS_f2 := hS.frozen 2
      have hS_c3 := hS.cell 3; have hS_f3 := hS.frozen 3
      have hS_c4 := hS.cell 4; have hS_f4 := hS.frozen 4
      simp only [List.getElem?_toArray, List.getElem?_cons_zero, List.getElem?_cons_succ] at hS_c0 hS_c1 hS_c2 hS_c3 hS_c4
      replace hR := hR.below hb2 (by first | omega | (simp; done) | (simp; omega))
      (try clear hR_c0); (try clear hR_f0)
      (try clear hR_c1); (try clear hR_f1)
      (try clear hR_c2); (try clear hR_f2)
      (try clear hR_c3); (try clear hR_f3)
      (try clear hR_c4); (try clear hR_f4)
      (try clear hR_lt)
      have hR_lt := hR.lt; (try simp only [World.size_alloc] at hR_lt)
      have hR_c0 := hR.cell 0; have hR_f0 := hR.frozen 0
      have hR_c1 := hR.cell 1; have hR_f1 := hR.frozen 1
      have hR_c2 := hR.cell 2; have hR_f2 := hR.frozen 2
      have hR_c3 := hR.cell 3; have hR_f3 := hR.frozen 3
      have hR_c4 := hR.cell 4; have hR_f4 := hR.frozen 4
      simp only [List.getElem?_toArray, List.getElem?_cons_zero, List.getElem?_cons_succ] at hR_c0 hR_c1 hR_c2 hR_c3 hR_c4
      (try clear hN_c0); (try clear hN_f0)
      (try clear hN_c1); (try clear hN_f1)
      (try clear hN_c2); (try clear hN_f2)
      (try clear hN_lt)
      have hN_lt := hN.lt; (try simp only [World.size_alloc] at hN_lt)
      have hN_c0 := hN.cell 0; have hN_f0 := hN.frozen 0
      have hN_c1 := hN.cell 1; have hN_f1 := hN.frozen 1
      have hN_c2 := hN.cell 2; have hN_f2 := hN.frozen 2
      simp only [List.getElem?_toArray, List.getElem?_cons_zero, List.getElem?_cons_succ] at hN_c0 hN_c1 hN_c2
      have s12 : w1.heap.size < w2.heap.size := by have := hb2.size; simp only [World.size_alloc] at this; omega
      clear hb1 hb2 hB1
      go_wp2
      refine ⟨rfl, ?_⟩
      apply Exists.intro
      apply And.intro
      · simp [results, Try.results20, go_sem, hR_c0, hR_c1, hR_c2, hR_c3, hR_c4, hR_lt]; exact rfl
      · exact ⟨rfl, (by repeat (first | exact Below.refl _ _ | assumption | refine Below.setCell ?_ (by first | omega | (simp; done) | (simp; omega)) _ | refine Below.alloc ?_ (by first | omega | (simp; done) | (simp; omega)) _ | refine Below.drew ?_ | refine Below.drewN' ?_ _ | refine Below.trans ?_ (Below.mono (by assumption) (by first | omega | (simp; done) | (simp; omega)))))⟩
    · rw [q2] at hv
      have q3 : decide (wd < a) = true := by simp; have := fin q2 q1; omega
      clear fin
      have hS := (Bk.new w 31 #[.int .i64 a, .int .i64 b, .int .i64 c, .int .i64 d, .int .i64 e]).alloc (.cells #[.int .i64 0, .int .i64 0, .int .i64 0, .int .i64 0, .int .i64 0] 31)
      have hR := Bk.new (w.alloc (.cells #[.int .i64 a, .int .i64 b, .int .i64 c, .int .i64 d, .int .i64 e] 31)) 31 #[.int .i64 0, .int .i64 0, .int .i64 0, .int .i64 0, .int .i64 0]
      rw [World.size_alloc] at hR
      go_enter Try.func20, Try.ntmps20
      go_wp2_with fail
      refine (hl _).mono ?_
      rintro x w1 ⟨rfl, hb1⟩
      have hB1 : Below w.heap.size w w1 := (by repeat (first | exact Below.refl _ _ | assumption | refine Below.setCell ?_ (by first | omega | (simp; done) | (simp; omega)) _ | refine Below.alloc ?_ (by first | omega | (simp; done) | (simp; omega)) _ | refine Below.drew ?_ | refine Below.drewN' ?_ _ | refine Below.trans ?_ (Below.mono (by assumption) (by first | omega | (simp; done) | (simp; omega)))))
      have s1 := hB1.size
      replace hS := hS.below hb1 (by first | omega | (simp; done) | (simp; omega))
      (try clear hS_c0); (try clear hS_f0)
      (try clear hS_c1); (try clear hS_f1)
      (try clear hS_c2); (try clear hS_f2)
      (try clear hS_c3); (try clear hS_f3)
      (try clear hS_c4); (try clear hS_f4)
      (try clear hS_lt)
      have hS_lt := hS.lt; (try simp only [World.size_alloc] at hS_lt)
      have hS_c0 := hS.cell 0; have hS_f0 := hS.frozen 0
      have hS_c1 := hS.cell 1; have hS_f1 := hS.frozen 1
      have hS_c2 := hS.cell 2; have hS_f2 := hS.frozen 2
      have hS_c3 := hS.cell 3; have hS_f3 := hS.frozen 3
      have hS_c4 := hS.cell 4; have hS_f4 := hS.frozen 4
      simp only [List.getElem?_toArray, List.getElem?_cons_zero, List.getElem?_cons_succ] at hS_c0 hS_c1 hS_c2 hS_c3 hS_c4
      replace hR := hR.below hb1 (by first | omega | (simp; done) | (simp; omega))
      (try clear hR_c0); (try clear hR_f0)
      (try clear hR_c1); (try clear hR_f1)
      (try clear hR_c2); (try clear hR_f2)
      (try clear hR_c3); (try clear hR_f3)
      (try clear hR_c4); (try clear hR_f4)
      (try clear hR_lt)
      have hR_lt := hR.lt; (try simp only [World.size_alloc] at hR_lt)
      have hR_c0 := hR.cell 0; have hR_f0 := hR.frozen 0
      have hR_c1 := hR.cell 1; have hR_f1 := hR.frozen 1
      have hR_c2 := hR.cell 2; have hR_f2 := hR.frozen 2
      have hR_c3 := hR.cell 3; have hR_f3 := hR.frozen 3
      have hR_c4 := hR.cell 4; have hR_f4 := hR.frozen 4
      simp only [List.getElem?_toArray, List.getElem?_cons_zero, List.getElem?_cons_succ] at hR_c0 hR_c1 hR_c2 hR_c3 hR_c4
      go_wp2_with fail
      refine (hv _).mono ?_
      rintro x w2 ⟨rfl, hb2⟩
      have hB2 : Below w.heap.size w w2 := (by repeat (first | exact Below.refl _ _ | assumption | refine Below.setCell ?_ (by first | omega | (simp; done) | (simp; omega)) _ | refine Below.alloc ?_ (by first | omega | (simp; done) | (simp; omega)) _ | refine Below.drew ?_ | refine Below.drewN' ?_ _ | refine Below.trans ?_ (Below.mono (by assumption) (by first | omega | (simp; done) | (simp; omega)))))
      have s2 := hB2.size
      have hN := (Bk.new w1 66 #[.int .i64 t, .int .i64 cm, .int .i64 wd]).below hb2 (by simp)
      replace hS := hS.alloc (.cells #[.int .i64 t, .int .i64 cm, .int .i64 wd] 66)
      replace hR := hR.alloc (.cells #[.int .i64 t, .int .i64 cm, .int .i64 wd] 66)
      replace hS := hS.below hb2 (by first | omega | (simp; done) | (simp; omega))
      (try clear hS_c0); (try clear hS_f0)
      (try clear hS_c1); (try clear hS_f1)
      (try clear hS_c2); (try clear hS_f2)
      (try clear hS_c3); (try clear hS_f3)
      (try clear hS_c4); (try clear hS_f4)
      (try clear hS_lt)
      have hS_lt := hS.lt; (try simp only [World.size_alloc] at hS_lt)
      have hS_c0 := hS.cell 0; have hS_f0 := hS.frozen 0
      have hS_c1 := hS.cell 1; have hS_f1 := hS.frozen 1
      have hS_c2 := hS.cell 2; have hS_f2 := hS.frozen 2
      have hS_c3 := hS.cell 3; have hS_f3 := hS.frozen 3
      have hS_c4 := hS.cell 4; have hS_f4 := hS.frozen 4
      simp only [List.getElem?_toArray, List.getElem?_cons_zero, List.getElem?_cons_succ] at hS_c0 hS_c1 hS_c2 hS_c3 hS_c4
      replace hR := hR.below hb2 (by first | omega | (simp; done) | (simp; omega))
      (try clear hR_c0); (try clear hR_f0)
      (try clear hR_c1); (try clear hR_f1)
      (try clear hR_c2); (try clear hR_f2)
      (try clear hR_c3); (try clear hR_f3)
      (try clear hR_c4); (try clear hR_f4)
      (try clear hR_lt)
      have hR_lt := hR.lt; (try simp only [World.size_alloc] at hR_lt)
      have hR_c0 := hR.cell 0; have hR_f0 := hR.frozen 0
      have hR_c1 := hR.cell 1; have hR_f1 := hR.frozen 1
      have hR_c2 := hR.cell 2; have hR_f2 := hR.frozen 2
      have hR_c3 := hR.cell 3; have hR_f3 := hR.frozen 3
      have hR_c4 := hR.cell 4; have hR_f4 := hR.frozen 4
      simp only [List.getElem?_toArray, List.getElem?_cons_zero, List.getElem?_cons_succ] at hR_c0 hR_c1 hR_c2 hR_c3 hR_c4
      (try clear hN_c0); (try clear hN_f0)
      (try clear hN_c1); (try clear hN_f1)
      (try clear hN_c2); (try clear hN_f2)
      (try clear hN_lt)
      have hN_lt := hN.lt; (try simp only [World.size_alloc] at hN_lt)
      have hN_c0 := hN.cell 0; have hN_f0 := hN.frozen 0
      have hN_c1 := hN.cell 1; have hN_f1 := hN.frozen 1
      have hN_c2 := hN.cell 2; have hN_f2 := hN.frozen 2
      simp only [List.getElem?_toArray, List.getElem?_cons_zero, List.getElem?_cons_succ] at hN_c0 hN_c1 hN_c2
      have s12 : w1.heap.size < w2.heap.size := by have := hb2.size; simp only [World.size_alloc] at this; omega
      clear hb1 hb2 hB1
      go_wp2
      refine ⟨rfl, ?_⟩
      apply Exists.intro
      apply And.intro
      · simp [results, Try.results20, go_sem, hR_c0, hR_c1, hR_c2, hR_c3, hR_c4, hR_lt]; exact rfl
      · exact ⟨rfl, (by repeat (first | exact Below.refl _ _ | assumption | refine Below.setCell ?_ (by first | omega | (simp; done) | (simp; omega)) _ | refine Below.alloc ?_ (by first | omega | (simp; done) | (simp; omega)) _ | refine Below.drew ?_ | refine Below.drewN' ?_ _ | refine Below.trans ?_ (Below.mono (by assumption) (by first | omega | (simp; done) | (simp; omega)))))⟩
end Go.Proofs.Ytambjhapnhmmmaa
