/-
  PacerPut of the program.
  Conditions: as each theorem states them.
-/
import Derived.Deep.RegionHeld3
import Derived.Test.YtilokgloocbbnaaRows
import Derived.Test.YtilokgloocbbnaaLib
import Derived.Test.YtilokgloocbbnaaOwn
import Derived.Test.YtilokgloocbbnaaBut
import Derived.Test.YtilokgloocbbnaaDraw
import Derived.Test.YtilokgloocbbnaaInv
import Derived.Test.YtilokgloocbbnaaSlots
import Derived.Test.YtilokgloocbbnaaApp
import Derived.Test.YtilokgloocbbnaaPac
import Derived.Test.YtilokgloocbbnaaPacB
import Derived.Test.YtilokgloocbbnaaPacP
import Derived.Test.YtilokgloocbbnaaPacE
import Derived.Test.YtilokgloocbbnaaPacF
import Derived.Outline
namespace Go.Proofs.Ytilokgloocbbnaa
open Go.RowKit
set_option linter.unusedVariables false
set_option linter.unusedSimpArgs false

set_option maxHeartbeats 4000000 in
theorem iput_bad (ea cr : Int) (A : Option Addr) (n c : Nat) (xs : List Wt) (x : Wt) (w : World) (h : Wts w w.heap.size A n xs) (hn : n ≤ 1099511627776) (hno : ¬ PutIn ea cr xs x) :
    Calls Try.prog 14 #[.agg #[.int .i64 ea, .int .i64 cr, .slice A n c], .agg #[.int .i64 x.id, .int .i64 x.cl, .int .i64 x.sz]] w (putBad w) := by
  have HL := Lib.hid h.len
  have hP := ((Bk.new w 25 #[.int .i64 ea, .int .i64 cr, .slice A n c]).alloc (.cells #[.int .i64 x.id, .int .i64 x.cl, .int .i64 x.sz] 27)).alloc (.cells #[.int .i64 0, .int .i64 0, .slice none 0 0] 25)
  have hX := (Bk.new (w.alloc (.cells #[.int .i64 ea, .int .i64 cr, .slice A n c] 25)) 27 #[.int .i64 x.id, .int .i64 x.cl, .int .i64 x.sz]).alloc (.cells #[.int .i64 0, .int .i64 0, .slice none 0 0] 25)
  have hR := Bk.new ((w.alloc (.cells #[.int .i64 ea, .int .i64 cr, .slice A n c] 25)).alloc (.cells #[.int .i64 x.id, .int .i64 x.cl, .int .i64 x.sz] 27)) 25 #[.int .i64 0, .int .i64 0, .slice none 0 0]
  simp only [World.size_alloc] at hX hR
  have hv := fun w h => ipv_any ea cr A n c xs w h hn
  have hx := fun w => iwv_any x w
  cases q1 : pB ea cr xs
  · rw [q1] at hv
    clear hno hx
    have HV := Lib.hid hv
    clear hv
    go_enter Try.func14, Try.ntmps14
    go_wp2_with fail
    refine (HV.out _ ?_).mono ?_
    · exact (Sl.alloc (Sl.alloc (Sl.alloc h (Nat.le_refl _) _) (by simp) _) (by simp; omega) _).more (by simp; omega)
    rintro y w1 ⟨rfl, hb1⟩
    replace hP := hP.below hb1 (by first | omega | exact hP.lt | (simp; done) | (simp; omega))
    (try clear hP_c0); (try clear hP_f0)
    (try clear hP_c1); (try clear hP_f1)
    (try clear hP_c2); (try clear hP_f2)
    (try clear hP_lt)
    have hP_lt := hP.lt; (try simp only [World.size_alloc] at hP_lt)
    have hP_c0 := hP.cell 0; have hP_f0 := hP.frozen 0
    have hP_c1 := hP.cell 1; have hP_f1 := hP.frozen 1
    have hP_c2 := hP.cell 2; have hP_f2 := hP.frozen 2
    simp only [List.getElem?_toArray, List.getElem?_cons_zero, List.getElem?_cons_succ] at hP_c0 hP_c1 hP_c2
    replace hX := hX.below hb1 (by first | omega | exact hX.lt | (simp; done) | (simp; omega))
    (try clear hX_c0); (try clear hX_f0)
    (try clear hX_c1); (try clear hX_f1)
    (try clear hX_c2); (try clear hX_f2)
    (try clear hX_lt)
    have hX_lt := hX.lt; (try simp only [World.size_alloc] at hX_lt)
    have hX_c0 := hX.cell 0; have hX_f0 := hX.frozen 0
    have hX_c1 := hX.cell 1; have hX_f1 := hX.frozen 1
    have hX_c2 := hX.cell 2; have hX_f2 := hX.frozen 2
    simp only [List.getElem?_toArray, List.getElem?_cons_zero, List.getElem?_cons_succ] at hX_c0 hX_c1 hX_c2
    replace hR := hR.below hb1 (by first | omega | exact hR.lt | (simp; done) | (simp; omega))
    (try clear hR_c0); (try clear hR_f0)
    (try clear hR_c1); (try clear hR_f1)
    (try clear hR_c2); (try clear hR_f2)
    (try clear hR_lt)
    have hR_lt := hR.lt; (try simp only [World.size_alloc] at hR_lt)
    have hR_c0 := hR.cell 0; have hR_f0 := hR.frozen 0
    have hR_c1 := hR.cell 1; have hR_f1 := hR.frozen 1
    have hR_c2 := hR.cell 2; have hR_f2 := hR.frozen 2
    simp only [List.getElem?_toArray, List.getElem?_cons_zero, List.getElem?_cons_succ] at hR_c0 hR_c1 hR_c2
    have hB : Below w.heap.size w w1 := (by repeat (first | exact Below.refl _ _ | assumption | refine Below.setCell ?_ (by first | omega | (simp; done) | (simp; omega)) _ | refine Below.alloc ?_ (by first | omega | (simp; done) | (simp; omega)) _ | refine Below.drew ?_ | refine Below.drewN' ?_ _ | refine Below.trans ?_ (Below.mono (by assumption) (by first | omega | (simp; done) | (simp; omega)))))
    clear hb1
    go_wp2
    refine ⟨rfl, ?_⟩
    apply Exists.intro
    apply And.intro
    · simp [results, Try.results14, go_sem, hR_c0, hR_c1, hR_c2, hR_lt]; exact rfl
    · exact ⟨rfl, (by repeat (first | exact Below.refl _ _ | assumption | refine Below.setCell ?_ (by first | omega | (simp; done) | (simp; omega)) _ | refine Below.alloc ?_ (by first | omega | (simp; done) | (simp; omega)) _ | refine Below.drew ?_ | refine Below.drewN' ?_ _ | refine Below.trans ?_ (Below.mono (by assumption) (by first | omega | (simp; done) | (simp; omega)))))⟩
  · rw [q1] at hv
    cases q2 : wB x
    · rw [q2] at hx
      clear hno
      have HV := Lib.hid hv
      clear hv
      go_enter Try.func14, Try.ntmps14
      go_wp2_with fail
      refine (HV.out _ ?_).mono ?_
      · exact (Sl.alloc (Sl.alloc (Sl.alloc h (Nat.le_refl _) _) (by simp) _) (by simp; omega) _).more (by simp; omega)
      rintro y w1 ⟨rfl, hb1⟩
      replace hP := hP.below hb1 (by first | omega | exact hP.lt | (simp; done) | (simp; omega))
      (try clear hP_c0); (try clear hP_f0)
      (try clear hP_c1); (try clear hP_f1)
      (try clear hP_c2); (try clear hP_f2)
      (try clear hP_lt)
      have hP_lt := hP.lt; (try simp only [World.size_alloc] at hP_lt)
      have hP_c0 := hP.cell 0; have hP_f0 := hP.frozen 0
      have hP_c1 := hP.cell 1; have hP_f1 := hP.frozen 1
      have hP_c2 := hP.cell 2; have hP_f2 := hP.frozen 2
      simp only [List.getElem?_toArray, List.getElem?_cons_zero, List.getElem?_cons_succ] at hP_c0 hP_c1 hP_c2
      replace hX := hX.below hb1 (by first | omega | exact hX.lt | (simp; done) | (simp; omega))
      (try clear hX_c0); (try clear hX_f0)
      (try clear hX_c1); (try clear hX_f1)
      (try clear hX_c2); (try clear hX_f2)
      (try clear hX_lt)
      have hX_lt := hX.lt; (try simp only [World.size_alloc] at hX_lt)
      have hX_c0 := hX.cell 0; have hX_f0 := hX.frozen 0
      have hX_c1 := hX.cell 1; have hX_f1 := hX.frozen 1
      have hX_c2 := hX.cell 2; have hX_f2 := hX.frozen 2
      simp only [List.getElem?_toArray, List.getElem?_cons_zero, List.getElem?_cons_succ] at hX_c0 hX_c1 hX_c2
      replace hR := hR.below hb1 (by first | omega | exact hR.lt | (simp; done) | (simp; omega))
      (try clear hR_c0); (try clear hR_f0)
      (try clear hR_c1); (try clear hR_f1)
      (try clear hR_c2); (try clear hR_f2)
      (try clear hR_lt)
      have hR_lt := hR.lt; (try simp only [World.size_alloc] at hR_lt)
      have hR_c0 := hR.cell 0; have hR_f0 := hR.frozen 0
      have hR_c1 := hR.cell 1; have hR_f1 := hR.frozen 1
      have hR_c2 := hR.cell 2; have hR_f2 := hR.frozen 2
      simp only [List.getElem?_toArray, List.getElem?_cons_zero, List.getElem?_cons_succ] at hR_c0 hR_c1 hR_c2
      have hB : Below w.heap.size w w1 := (by repeat (first | exact Below.refl _ _ | assumption | refine Below.setCell ?_ (by first | omega | (simp; done) | (simp; omega)) _ | refine Below.alloc ?_ (by first | omega | (simp; done) | (simp; omega)) _ | refine Below.drew ?_ | refine Below.drewN' ?_ _ | refine Below.trans ?_ (Below.mono (by assumption) (by first | omega | (simp; done) | (simp; omega)))))
      clear hb1
      have HX := Lib.hid hx
      clear hx
      go_wp2_with fail
      refine (HX.out _).mono ?_
      rintro y w2 ⟨rfl, hb2⟩
      replace hP := hP.below hb2 (by first | omega | exact hP.lt | (simp; done) | (simp; omega))
      (try clear hP_c0); (try clear hP_f0)
      (try clear hP_c1); (try clear hP_f1)
      (try clear hP_c2); (try clear hP_f2)
      (try clear hP_lt)
      have hP_lt := hP.lt; (try simp only [World.size_alloc] at hP_lt)
      have hP_c0 := hP.cell 0; have hP_f0 := hP.frozen 0
      have hP_c1 := hP.cell 1; have hP_f1 := hP.frozen 1
      have hP_c2 := hP.cell 2; have hP_f2 := hP.frozen 2
      simp only [List.getElem?_toArray, List.getElem?_cons_zero, List.getElem?_cons_succ] at hP_c0 hP_c1 hP_c2
      replace hX := hX.below hb2 (by first | omega | exact hX.lt | (simp; done) | (simp; omega))
      (try clear hX_c0); (try clear hX_f0)
      (try clear hX_c1); (try clear hX_f1)
      (try clear hX_c2); (try clear hX_f2)
      (try clear hX_lt)
      have hX_lt := hX.lt; (try simp only [World.size_alloc] at hX_lt)
      have hX_c0 := hX.cell 0; have hX_f0 := hX.frozen 0
      have hX_c1 := hX.cell 1; have hX_f1 := hX.frozen 1
      have hX_c2 := hX.cell 2; have hX_f2 := hX.frozen 2
      simp only [List.getElem?_toArray, List.getElem?_cons_zero, List.getElem?_cons_succ] at hX_c0 hX_c1 hX_c2
      replace hR := hR.below hb2 (by first | omega | exact hR.lt | (simp; done) | (simp; omega))
      (try clear hR_c0); (try clear hR_f0)
      (try clear hR_c1); (try clear hR_f1)
      (try clear hR_c2); (try clear hR_f2)
      (try clear hR_lt)
      have hR_lt := hR.lt; (try simp only [World.size_alloc] at hR_lt)
      have hR_c0 := hR.cell 0; have hR_f0 := hR.frozen 0
      have hR_c1 := hR.cell 1; have hR_f1 := hR.frozen 1
      have hR_c2 := hR.cell 2; have hR_f2 := hR.frozen 2
      simp only [List.getElem?_toArray, List.getElem?_cons_zero, List.getElem?_cons_succ] at hR_c0 hR_c1 hR_c2
      replace hB := hB.trans (hb2.mono hB.size)
      clear hb2
      go_wp2
      refine ⟨rfl, ?_⟩
      apply Exists.intro
      apply And.intro
      · simp [results, Try.results14, go_sem, hR_c0, hR_c1, hR_c2, hR_lt]; exact rfl
      · exact ⟨rfl, (by repeat (first | exact Below.refl _ _ | assumption | refine Below.setCell ?_ (by first | omega | (simp; done) | (simp; omega)) _ | refine Below.alloc ?_ (by first | omega | (simp; done) | (simp; omega)) _ | refine Below.drew ?_ | refine Below.drewN' ?_ _ | refine Below.trans ?_ (Below.mono (by assumption) (by first | omega | (simp; done) | (simp; omega)))))⟩
    · rw [q2] at hx
      have q3 : decide ((12 : Int) ≤ (n : Int)) = true := by
        have h12 : xs.length = 12 := Classical.byContradiction fun h12 => hno ⟨pB_true.1 q1, of_decide_eq_true q2, h12⟩
        rw [HL.out] at h12
        simp
        omega
      clear hno
      have HV := Lib.hid hv
      clear hv
      go_enter Try.func14, Try.ntmps14
      go_wp2_with fail
      refine (HV.out _ ?_).mono ?_
      · exact (Sl.alloc (Sl.alloc (Sl.alloc h (Nat.le_refl _) _) (by simp) _) (by simp; omega) _).more (by simp; omega)
      rintro y w1 ⟨rfl, hb1⟩
      replace hP := hP.below hb1 (by first | omega | exact hP.lt | (simp; done) | (simp; omega))
      (try clear hP_c0); (try clear hP_f0)
      (try clear hP_c1); (try clear hP_f1)
      (try clear hP_c2); (try clear hP_f2)
      (try clear hP_lt)
      have hP_lt := hP.lt; (try simp only [World.size_alloc] at hP_lt)
      have hP_c0 := hP.cell 0; have hP_f0 := hP.frozen 0
      have hP_c1 := hP.cell 1; have hP_f1 := hP.frozen 1
      have hP_c2 := hP.cell 2; have hP_f2 := hP.frozen 2
      simp only [List.getElem?_toArray, List.getElem?_cons_zero, List.getElem?_cons_succ] at hP_c0 hP_c1 hP_c2
      replace hX := hX.below hb1 (by first | omega | exact hX.lt | (simp; done) | (simp; omega))
      (try clear hX_c0); (try clear hX_f0)
      (try clear hX_c1); (try clear hX_f1)
      (try clear hX_c2); (try clear hX_f2)
      (try clear hX_lt)
      have hX_lt := hX.lt; (try simp only [World.size_alloc] at hX_lt)
      have hX_c0 := hX.cell 0; have hX_f0 := hX.frozen 0
      have hX_c1 := hX.cell 1; have hX_f1 := hX.frozen 1
      have hX_c2 := hX.cell 2; have hX_f2 := hX.frozen 2
      simp only [List.getElem?_toArray, List.getElem?_cons_zero, List.getElem?_cons_succ] at hX_c0 hX_c1 hX_c2
      replace hR := hR.below hb1 (by first | omega | exact hR.lt | (simp; done) | (simp; omega))
      (try clear hR_c0); (try clear hR_f0)
      (try clear hR_c1); (try clear hR_f1)
      (try clear hR_c2); (try clear hR_f2)
      (try clear hR_lt)
      have hR_lt := hR.lt; (try simp only [World.size_alloc] at hR_lt)
      have hR_c0 := hR.cell 0; have hR_f0 := hR.frozen 0
      have hR_c1 := hR.cell 1; have hR_f1 := hR.frozen 1
      have hR_c2 := hR.cell 2; have hR_f2 := hR.frozen 2
      simp only [List.getElem?_toArray, List.getElem?_cons_zero, List.getElem?_cons_succ] at hR_c0 hR_c1 hR_c2
      have hB : Below w.heap.size w w1 := (by repeat (first | exact Below.refl _ _ | assumption | refine Below.setCell ?_ (by first | omega | (simp; done) | (simp; omega)) _ | refine Below.alloc ?_ (by first | omega | (simp; done) | (simp; omega)) _ | refine Below.drew ?_ | refine Below.drewN' ?_ _ | refine Below.trans ?_ (Below.mono (by assumption) (by first | omega | (simp; done) | (simp; omega)))))
      clear hb1
      have HX := Lib.hid hx
      clear hx
      go_wp2_with fail
      refine (HX.out _).mono ?_
      rintro y w2 ⟨rfl, hb2⟩
      replace hP := hP.below hb2 (by first | omega | exact hP.lt | (simp; done) | (simp; omega))
      (try clear hP_c0); (try clear hP_f0)
      (try clear hP_c1); (try clear hP_f1)
      (try clear hP_c2); (try clear hP_f2)
      (try clear hP_lt)
      have hP_lt := hP.lt; (try simp only [World.size_alloc] at hP_lt)
      have hP_c0 := hP.cell 0; have hP_f0 := hP.frozen 0
      have hP_c1 := hP.cell 1; have hP_f1 := hP.frozen 1
      have hP_c2 := hP.cell 2; have hP_f2 := hP.frozen 2
      simp only [List.getElem?_toArray, List.getElem?_cons_zero, List.getElem?_cons_succ] at hP_c0 hP_c1 hP_c2
      replace hX := hX.below hb2 (by first | omega | exact hX.lt | (simp; done) | (simp; omega))
      (try clear hX_c0); (try clear hX_f0)
      (try clear hX_c1); (try clear hX_f1)
      (try clear hX_c2); (try clear hX_f2)
      (try clear hX_lt)
      have hX_lt := hX.lt; (try simp only [World.size_alloc] at hX_lt)
      have hX_c0 := hX.cell 0; have hX_f0 := hX.frozen 0
      have hX_c1 := hX.cell 1; have hX_f1 := hX.frozen 1
      have hX_c2 := hX.cell 2; have hX_f2 := hX.frozen 2
      simp only [List.getElem?_toArray, List.getElem?_cons_zero, List.getElem?_cons_succ] at hX_c0 hX_c1 hX_c2
      replace hR := hR.below hb2 (by first | omega | exact hR.lt | (simp; done) | (simp; omega))
      (try clear hR_c0); (try clear hR_f0)
      (try clear hR_c1); (try clear hR_f1)
      (try clear hR_c2); (try clear hR_f2)
      (try clear hR_lt)
      have hR_lt := hR.lt; (try simp only [World.size_alloc] at hR_lt)
      have hR_c0 := hR.cell 0; have hR_f0 := hR.frozen 0
      have hR_c1 := hR.cell 1; have hR_f1 := hR.frozen 1
      have hR_c2 := hR.cell 2; have hR_f2 := hR.frozen 2
      simp only [List.getElem?_toArray, List.getElem?_cons_zero, List.getElem?_cons_succ] at hR_c0 hR_c1 hR_c2
      replace hB := hB.trans (hb2.mono hB.size)
      clear hb2
      go_wp2
      refine ⟨rfl, ?_⟩
      apply Exists.intro
      apply And.intro
      · simp [results, Try.results14, go_sem, hR_c0, hR_c1, hR_c2, hR_lt]; exact rfl
      · exact ⟨rfl, (by repeat (first | exact Below.refl _ _ | assumption | refine Below.setCell ?_ (by first | omega | (simp; done) | (simp; omega)) _ | refine Below.alloc ?_ (by first | omega | (simp; done) | (simp; omega)) _ | refine Below.drew ?_ | refine Below.drewN' ?_ _ | refine Below.trans ?_ (Below.mono (by assumption) (by first | omega | (simp; done) | (simp; omega)))))⟩

/-- A lead there is. -/
theorem lead_ex (xs : List Wt) (c : Int) : ∃ k, Lead xs c k := by
  induction xs with
  | nil => exact ⟨0, by simp, fun j x h => absurd h (by omega), fun x h => by simp at h⟩
  | cons x xs ih =>
    by_cases hx : x.cl ≤ c
    · obtain ⟨k, h1, h2, h3⟩ := ih
      refine ⟨k + 1, by simpa using h1, fun j y hj hy => ?_, fun y hy => h3 y (by simpa using hy)⟩
      rcases j with _ | j
      · simp at hy; subst hy; exact hx
      · exact h2 j y (by omega) (by simpa using hy)
    · exact ⟨0, by simp, fun j x h => absurd h (by omega), fun y hy => by simp at hy; subst hy; omega⟩
theorem QR.drew_ {TQ : TypeId} {w : World} {bq B : Nat} {v : Nat → Value} {q : Nat → List Wt} (h : QR TQ w bq B v q) : QR TQ w.drew bq B v q := h

set_option maxHeartbeats 8000000 in
theorem iput_good (ea cr : Int) (A : Option Addr) (n c : Nat) (xs : List Wt) (x : Wt) (w : World) (h : Wts w w.heap.size A n xs) (hn : n ≤ 1099511627776) (hin : PutIn ea cr xs x) :
    Calls Try.prog 14 #[.agg #[.int .i64 ea, .int .i64 cr, .slice A n c], .agg #[.int .i64 x.id, .int .i64 x.cl, .int .i64 x.sz]] w fun y w' => ∃ k, Lead xs x.cl k ∧ putGood ea cr (putAt xs k x) w y w' := by
  have HL := Lib.hid h.len
  have hP := ((Bk.new w 25 #[.int .i64 ea, .int .i64 cr, .slice A n c]).alloc (.cells #[.int .i64 x.id, .int .i64 x.cl, .int .i64 x.sz] 27)).alloc (.cells #[.int .i64 0, .int .i64 0, .slice none 0 0] 25)
  have hX := (Bk.new (w.alloc (.cells #[.int .i64 ea, .int .i64 cr, .slice A n c] 25)) 27 #[.int .i64 x.id, .int .i64 x.cl, .int .i64 x.sz]).alloc (.cells #[.int .i64 0, .int .i64 0, .slice none 0 0] 25)
  have hR := Bk.new ((w.alloc (.cells #[.int .i64 ea, .int .i64 cr, .slice A n c] 25)).alloc (.cells #[.int .i64 x.id, .int .i64 x.cl, .int .i64 x.sz] 27)) 25 #[.int .i64 0, .int .i64 0, .slice none 0 0]
  simp only [World.size_alloc] at hX hR
  have hv := fun w h => ipv_any ea cr A n c xs w h hn
  have hx := fun w => iwv_any x w
  have q1 : pB ea cr xs = true := pB_true.2 hin.1
  have q2 : wB x = true := decide_eq_true hin.2.1
  have q3 : decide ((12 : Int) ≤ (n : Int)) = false := by
    have h1 := hin.2.2
    have h2 := hin.1.2.2.2.2.1
    rw [HL.out] at h1 h2
    simp
    omega
  have hn12 : n ≤ 12 := by have := hin.1.2.2.2.2.1; rw [HL.out] at this; exact this
  obtain ⟨k0, hlead⟩ := lead_ex xs x.cl
  have hcls : ∀ y ∈ xs, 0 ≤ y.cl ∧ y.cl ≤ 2 := fun y hy => by have := okTo_mem hin.1.2.2.2.2.2 hy; exact ⟨this.2.2.1, this.2.2.2.1⟩
  have hasc := okTo_asc hin.1.2.2.2.2.2
  have hxc : 0 ≤ x.cl ∧ x.cl ≤ 2 := ⟨hin.2.1.2.2.1, hin.2.1.2.2.2.1⟩
  have HJ := Lib.hid (join_put hasc hcls hxc hlead)
  have HLEAD := Lib.hid hlead
  have HCLS := Lib.hid hcls
  obtain ⟨i, hi⟩ := Int.eq_ofNat_of_zero_le hxc.1
  have hi3 : i < 3 := by omega
  have HI := Lib.hid hi
  rw [q1] at hv
  rw [q2] at hx
  have HV := Lib.hid hv
  have HX := Lib.hid hx
  clear hv hx q1 q2 hin hlead hcls hasc hxc hi
  go_enter Try.func14, Try.ntmps14
  go_wp2_with fail
  refine (HV.out _ ?_).mono ?_
  · exact (Sl.alloc (Sl.alloc (Sl.alloc h (Nat.le_refl _) _) (by simp) _) (by simp; omega) _).more (by simp; omega)
  rintro y w1 ⟨rfl, hb1⟩
  replace hP := hP.below hb1 (by first | omega | exact hP.lt | (simp; done) | (simp; omega))
  (try clear hP_c0); (try clear hP_f0)
  (try clear hP_c1); (try clear hP_f1)
  (try clear hP_c2); (try clear hP_f2)
  (try clear hP_lt)
  have hP_lt := hP.lt; (try simp only [World.size_alloc] at hP_lt)
  have hP_c0 := hP.cell 0; have hP_f0 := hP.frozen 0
  have hP_c1 := hP.cell 1; have hP_f1 := hP.frozen 1
  have hP_c2 := hP.cell 2; have hP_f2 := hP.frozen 2
  simp only [List.getElem?_toArray, List.getElem?_cons_zero, List.getElem?_cons_succ] at hP_c0 hP_c1 hP_c2
  replace hX := hX.below hb1 (by first | omega | exact hX.lt | (simp; done) | (simp; omega))
  (try clear hX_c0); (try clear hX_f0)
  (try clear hX_c1); (try clear hX_f1)
  (try clear hX_c2); (try clear hX_f2)
  (try clear hX_lt)
  have hX_lt := hX.lt; (try simp only [World.size_alloc] at hX_lt)
  have hX_c0 := hX.cell 0; have hX_f0 := hX.frozen 0
  have hX_c1 := hX.cell 1; have hX_f1 := hX.frozen 1
  have hX_c2 := hX.cell 2; have hX_f2 := hX.frozen 2
  simp only [List.getElem?_toArray, List.getElem?_cons_zero, List.getElem?_cons_succ] at hX_c0 hX_c1 hX_c2
  replace hR := hR.below hb1 (by first | omega | exact hR.lt | (simp; done) | (simp; omega))
  (try clear hR_c0); (try clear hR_f0)
  (try clear hR_c1); (try clear hR_f1)
  (try clear hR_c2); (try clear hR_f2)
  (try clear hR_lt)
  have hR_lt := hR.lt; (try simp only [World.size_alloc] at hR_lt)
  have hR_c0 := hR.cell 0; have hR_f0 := hR.frozen 0
  have hR_c1 := hR.cell 1; have hR_f1 := hR.frozen 1
  have hR_c2 := hR.cell 2; have hR_f2 := hR.frozen 2
  simp only [List.getElem?_toArray, List.getElem?_cons_zero, List.getElem?_cons_succ] at hR_c0 hR_c1 hR_c2
  have hB : Below w.heap.size w w1 := (by repeat (first | exact Below.refl _ _ | assumption | refine Below.setCell ?_ (by first | omega | (simp; done) | (simp; omega)) _ | refine Below.alloc ?_ (by first | omega | (simp; done) | (simp; omega)) _ | refine Below.drew ?_ | refine Below.drewN' ?_ _ | refine Below.trans ?_ (Below.mono (by assumption) (by first | omega | (simp; done) | (simp; omega)))))
  clear hb1
  go_wp2_with fail
  refine (HX.out _).mono ?_
  rintro y w2 ⟨rfl, hb2⟩
  replace hP := hP.below hb2 (by first | omega | exact hP.lt | (simp; done) | (simp; omega))
  (try clear hP_c0); (try clear hP_f0)
  (try clear hP_c1); (try clear hP_f1)
  (try clear hP_c2); (try clear hP_f2)
  (try clear hP_lt)
  have hP_lt := hP.lt; (try simp only [World.size_alloc] at hP_lt)
  have hP_c0 := hP.cell 0; have hP_f0 := hP.frozen 0
  have hP_c1 := hP.cell 1; have hP_f1 := hP.frozen 1
  have hP_c2 := hP.cell 2; have hP_f2 := hP.frozen 2
  simp only [List.getElem?_toArray, List.getElem?_cons_zero, List.getElem?_cons_succ] at hP_c0 hP_c1 hP_c2
  replace hX := hX.below hb2 (by first | omega | exact hX.lt | (simp; done) | (simp; omega))
  (try clear hX_c0); (try clear hX_f0)
  (try clear hX_c1); (try clear hX_f1)
  (try clear hX_c2); (try clear hX_f2)
  (try clear hX_lt)
  have hX_lt := hX.lt; (try simp only [World.size_alloc] at hX_lt)
  have hX_c0 := hX.cell 0; have hX_f0 := hX.frozen 0
  have hX_c1 := hX.cell 1; have hX_f1 := hX.frozen 1
  have hX_c2 := hX.cell 2; have hX_f2 := hX.frozen 2
  simp only [List.getElem?_toArray, List.getElem?_cons_zero, List.getElem?_cons_succ] at hX_c0 hX_c1 hX_c2
  replace hR := hR.below hb2 (by first | omega | exact hR.lt | (simp; done) | (simp; omega))
  (try clear hR_c0); (try clear hR_f0)
  (try clear hR_c1); (try clear hR_f1)
  (try clear hR_c2); (try clear hR_f2)
  (try clear hR_lt)
  have hR_lt := hR.lt; (try simp only [World.size_alloc] at hR_lt)
  have hR_c0 := hR.cell 0; have hR_f0 := hR.frozen 0
  have hR_c1 := hR.cell 1; have hR_f1 := hR.frozen 1
  have hR_c2 := hR.cell 2; have hR_f2 := hR.frozen 2
  simp only [List.getElem?_toArray, List.getElem?_cons_zero, List.getElem?_cons_succ] at hR_c0 hR_c1 hR_c2
  replace hB := hB.trans (hb2.mono hB.size)
  clear hb2
  have hs2 := (Wts.below h hB).more hB.size
  have hRl2 : w.heap.size + 1 + 1 < w2.heap.size := hR.lt
  go_wp2_with fail
  refine (nwq_any A n c xs w2 hs2 hn HCLS.out).mono ?_
  rintro y w3 ⟨rfl, ⟨v, hq⟩, hb3⟩
  replace hP := hP.below hb3 (by first | omega | exact hP.lt | (simp; done) | (simp; omega))
  (try clear hP_c0); (try clear hP_f0)
  (try clear hP_c1); (try clear hP_f1)
  (try clear hP_c2); (try clear hP_f2)
  (try clear hP_lt)
  have hP_lt := hP.lt; (try simp only [World.size_alloc] at hP_lt)
  have hP_c0 := hP.cell 0; have hP_f0 := hP.frozen 0
  have hP_c1 := hP.cell 1; have hP_f1 := hP.frozen 1
  have hP_c2 := hP.cell 2; have hP_f2 := hP.frozen 2
  simp only [List.getElem?_toArray, List.getElem?_cons_zero, List.getElem?_cons_succ] at hP_c0 hP_c1 hP_c2
  replace hX := hX.below hb3 (by first | omega | exact hX.lt | (simp; done) | (simp; omega))
  (try clear hX_c0); (try clear hX_f0)
  (try clear hX_c1); (try clear hX_f1)
  (try clear hX_c2); (try clear hX_f2)
  (try clear hX_lt)
  have hX_lt := hX.lt; (try simp only [World.size_alloc] at hX_lt)
  have hX_c0 := hX.cell 0; have hX_f0 := hX.frozen 0
  have hX_c1 := hX.cell 1; have hX_f1 := hX.frozen 1
  have hX_c2 := hX.cell 2; have hX_f2 := hX.frozen 2
  simp only [List.getElem?_toArray, List.getElem?_cons_zero, List.getElem?_cons_succ] at hX_c0 hX_c1 hX_c2
  replace hR := hR.below hb3 (by first | omega | exact hR.lt | (simp; done) | (simp; omega))
  (try clear hR_c0); (try clear hR_f0)
  (try clear hR_c1); (try clear hR_f1)
  (try clear hR_c2); (try clear hR_f2)
  (try clear hR_lt)
  have hR_lt := hR.lt; (try simp only [World.size_alloc] at hR_lt)
  have hR_c0 := hR.cell 0; have hR_f0 := hR.frozen 0
  have hR_c1 := hR.cell 1; have hR_f1 := hR.frozen 1
  have hR_c2 := hR.cell 2; have hR_f2 := hR.frozen 2
  simp only [List.getElem?_toArray, List.getElem?_cons_zero, List.getElem?_cons_succ] at hR_c0 hR_c1 hR_c2
  have hB3 := hB.trans (hb3.mono hB.size)
  have hqb : w2.heap.size < w3.heap.size := hq.1.lt
  have hbs2 := hB.size
  have HQ := Lib.hid hq
  clear hq hs2
  go_wp2_with fail
  refine (put_any i hi3 x HI.out w3 _ v _ HQ.out (by have := cls_len xs i; have := HL.out; omega)).mono ?_
  rintro y w4 ⟨rfl, ⟨v', hq'⟩, hb4⟩
  replace hP := hP.below hb4 (by first | omega | exact hP.lt | (simp; done) | (simp; omega))
  (try clear hP_c0); (try clear hP_f0)
  (try clear hP_c1); (try clear hP_f1)
  (try clear hP_c2); (try clear hP_f2)
  (try clear hP_lt)
  have hP_lt := hP.lt; (try simp only [World.size_alloc] at hP_lt)
  have hP_c0 := hP.cell 0; have hP_f0 := hP.frozen 0
  have hP_c1 := hP.cell 1; have hP_f1 := hP.frozen 1
  have hP_c2 := hP.cell 2; have hP_f2 := hP.frozen 2
  simp only [List.getElem?_toArray, List.getElem?_cons_zero, List.getElem?_cons_succ] at hP_c0 hP_c1 hP_c2
  replace hX := hX.below hb4 (by first | omega | exact hX.lt | (simp; done) | (simp; omega))
  (try clear hX_c0); (try clear hX_f0)
  (try clear hX_c1); (try clear hX_f1)
  (try clear hX_c2); (try clear hX_f2)
  (try clear hX_lt)
  have hX_lt := hX.lt; (try simp only [World.size_alloc] at hX_lt)
  have hX_c0 := hX.cell 0; have hX_f0 := hX.frozen 0
  have hX_c1 := hX.cell 1; have hX_f1 := hX.frozen 1
  have hX_c2 := hX.cell 2; have hX_f2 := hX.frozen 2
  simp only [List.getElem?_toArray, List.getElem?_cons_zero, List.getElem?_cons_succ] at hX_c0 hX_c1 hX_c2
  replace hR := hR.below hb4 (by first | omega | exact hR.lt | (simp; done) | (simp; omega))
  (try clear hR_c0); (try clear hR_f0)
  (try clear hR_c1); (try clear hR_f1)
  (try clear hR_c2); (try clear hR_f2)
  (try clear hR_lt)
  have hR_lt := hR.lt; (try simp only [World.size_alloc] at hR_lt)
  have hR_c0 := hR.cell 0; have hR_f0 := hR.frozen 0
  have hR_c1 := hR.cell 1; have hR_f1 := hR.frozen 1
  have hR_c2 := hR.cell 2; have hR_f2 := hR.frozen 2
  simp only [List.getElem?_toArray, List.getElem?_cons_zero, List.getElem?_cons_succ] at hR_c0 hR_c1 hR_c2
  have hB4 := hB3.trans (hb4.mono hbs2)
  have hq4 : w2.heap.size < w4.heap.size := hq'.1.lt
  have e : updQ (cls xs) i x = cls (xs ++ [x]) := by
    funext j
    rw [cls_snoc]
    unfold updQ
    by_cases hj : j = i
    · subst hj
      rw [if_pos rfl, if_pos HI.out]
    · rw [if_neg hj, if_neg]
      rw [HI.out]
      omega
  rw [e] at hq'
  have HQR := Lib.hid hq'.qr
  have HLN := Lib.hid (show (join (cls (xs ++ [x]))).length ≤ 1099511627776 by rw [HJ.out, putAt_len HLEAD.out.1, HL.out]; omega)
  have hbs4 := hB4.size
  clear hq' e hb3 hb4
  go_wp2_with fail
  go_region_held3 (fun w' => w'.cell? ⟨w.heap.size, 0, none⟩ = some (.int .i64 ea) ∧ w'.cell? ⟨w.heap.size, 1, none⟩ = some (.int .i64 cr))
    ((first | go_keep | (repeat' (first | assumption | apply And.intro | rw [World.cell?_setCell_other _ _ _ _ (fun e => by injection e; omega)]))))
    ((go_at_call 40; refine (all_any w4.drew _ v' _ HQR.out.drew_ HLN.out).mono ?_; rintro y w5 ⟨u, rfl, hown, hb5⟩; obtain ⟨A5, c5, rfl, -⟩ := own_shape hown; have P0 := (hb5.cell (p := ⟨w.heap.size, 0, none⟩) (by show w.heap.size < w4.heap.size; omega)).trans hP_c0; have P1 := (hb5.cell (p := ⟨w.heap.size, 1, none⟩) (by show w.heap.size < w4.heap.size; omega)).trans hP_c1; have hR5 := hR.drew.below hb5 hR.lt; have R0 := hR5.cell 0; have R1 := hR5.cell 1; have R2 := hR5.cell 2; have F0 := hR5.frozen 0; have F1 := hR5.frozen 1; have F2 := hR5.frozen 2; simp only [List.getElem?_toArray, List.getElem?_cons_zero, List.getElem?_cons_succ] at R0 R1 R2))
  clear R0 R1 R2 F0 F1 F2 P0 P1
  (try clear hR5_c0); (try clear hR5_f0)
  (try clear hR5_c1); (try clear hR5_f1)
  (try clear hR5_c2); (try clear hR5_f2)
  (try clear hR5_lt)
  have hR5_lt := hR5.lt; (try simp only [World.size_alloc] at hR5_lt)
  have hR5_c0 := hR5.cell 0; have hR5_f0 := hR5.frozen 0
  have hR5_c1 := hR5.cell 1; have hR5_f1 := hR5.frozen 1
  have hR5_c2 := hR5.cell 2; have hR5_f2 := hR5.frozen 2
  simp only [List.getElem?_toArray, List.getElem?_cons_zero, List.getElem?_cons_succ] at hR5_c0 hR5_c1 hR5_c2
  have hOs : Only (w.heap.size + 1 + 1) w5 (((w5.setCell ⟨w.heap.size + 1 + 1, 0, none⟩ (.int .i64 ea)).setCell ⟨w.heap.size + 1 + 1, 1, none⟩ (.int .i64 cr)).setCell ⟨w.heap.size + 1 + 1, 2, none⟩ (.slice A5 (join (cls (xs ++ [x]))).length c5)) := (((Only.refl _ _).setCell (p := ⟨w.heap.size + 1 + 1, 0, none⟩) (.inl rfl) _).setCell (p := ⟨w.heap.size + 1 + 1, 1, none⟩) (.inl rfl) _).setCell (p := ⟨w.heap.size + 1 + 1, 2, none⟩) (.inl rfl) _
  have hown2 := own_more (own_only hown hOs (by show _ < w4.heap.size; omega)) (base' := w.heap.size) (by show _ ≤ w4.heap.size; omega)
  have hB5 : Below w.heap.size w w5 := hB4.drew.trans (hb5.mono hbs4)
  have hfin : (((w5.setCell ⟨w.heap.size + 1 + 1, 0, none⟩ (.int .i64 ea)).setCell ⟨w.heap.size + 1 + 1, 1, none⟩ (.int .i64 cr)).setCell ⟨w.heap.size + 1 + 1, 2, none⟩ (.slice A5 (join (cls (xs ++ [x]))).length c5)).ownsRow w.heap.size 27 3 (.slice A5 (join (cls (xs ++ [x]))).length c5) (putAt xs k0 x).length ((putAt xs k0 x).flatMap Wt.c) := by
    have := hown2
    rw [← HJ.out]
    exact this
  have HF := Lib.hid hfin
  have HBF := Lib.hid (((hB5.setCell (p := ⟨w.heap.size + 1 + 1, 0, none⟩) (by show _ ≤ w.heap.size + 1 + 1; omega) (.int .i64 ea)).setCell (p := ⟨w.heap.size + 1 + 1, 1, none⟩) (by show _ ≤ w.heap.size + 1 + 1; omega) (.int .i64 cr)).setCell (p := ⟨w.heap.size + 1 + 1, 2, none⟩) (by show _ ≤ w.heap.size + 1 + 1; omega) (.slice A5 (join (cls (xs ++ [x]))).length c5))
  clear hfin hown2 hOs hown
  go_wp2
  refine ⟨rfl, ?_⟩
  apply Exists.intro
  apply And.intro
  · simp [results, Try.results14, go_sem, hR5_c0, hR5_c1, hR5_c2, hR5_lt]; exact rfl
  · exact ⟨k0, HLEAD.out, _, rfl, HF.out, HBF.out⟩
end Go.Proofs.Ytilokgloocbbnaa
