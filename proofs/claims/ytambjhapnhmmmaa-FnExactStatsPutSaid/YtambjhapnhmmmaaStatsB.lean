/-
  StatsPut: what the program's and the reference's give.
  Conditions: as each theorem states them.
-/
import Derived.Test.YtambjhapnhmmmaaRows
import Derived.Test.YtambjhapnhmmmaaLib
import Derived.Test.YtambjhapnhmmmaaDraw
import Derived.Test.YtambjhapnhmmmaaStats
namespace Go.Proofs.Ytambjhapnhmmmaa
open Go.RowKit
set_option linter.unusedVariables false
set_option linter.unusedSimpArgs false

/-- The values of stats. -/
def stV (a b c d e : Int) : Value := .agg #[.int .i64 a, .int .i64 b, .int .i64 c, .int .i64 d, .int .i64 e]
def absI (x : Int) : Int := if x < 0 then -x else x
theorem absI_bd (x : Int) : 0 ≤ absI x ∧ x ≤ absI x ∧ -x ≤ absI x ∧ (absI x = x ∨ absI x = -x) := by unfold absI; split <;> omega
/-- Is what StatsPut takes in order, ahead of its result? -/
def PutIn (a b c d e wd t cm : Int) : Prop := StOk a b c d e ∧ WtOk wd t cm ∧ a ≤ wd
def putD (d e t cm : Int) : Int := d + absI (cm - t - e) - (d + 8) / 16
def PutOk (a b c d e wd t cm : Int) : Prop := PutIn a b c d e wd t cm ∧ StOk a (max b wd) (c + 1) (putD d e t cm) (cm - t)
def putBad (w : World) (x : Ending) (w' : World) : Prop := x = .returned (.tuple #[.agg #[.int .i64 0, .int .i64 0, .int .i64 0, .int .i64 0, .int .i64 0], .bool false]) ∧ Below w.heap.size w w'
def putGood (a b c d e wd t cm : Int) (w : World) (x : Ending) (w' : World) : Prop := x = .returned (.tuple #[.agg #[.int .i64 a, .int .i64 (max b wd), .int .i64 (c + 1), .int .i64 (putD d e t cm), .int .i64 (cm - t)], .bool true]) ∧ Below w.heap.size w w'

set_option maxHeartbeats 4000000 in
theorem sput_out (a b c d e wd t cm : Int) (w : World) (h : ¬ PutIn a b c d e wd t cm) :
    Calls Try.prog 18 #[.agg #[.int .i64 a, .int .i64 b, .int .i64 c, .int .i64 d, .int .i64 e], .int .i64 wd, .int .i64 t, .int .i64 cm] w (putBad w) := by
  have hv := fun w => sstv_any a b c d e w
  have hl := fun w => l14ok_any wd t cm w
  have fin : (stB a b c d e = true → wtB wd t cm = true → ¬ a ≤ wd) := by
    intro h1 h2 h3
    exact h ⟨of_decide_eq_true h1, of_decide_eq_true h2, h3⟩
  clear h
  cases q1 : stB a b c d e
  · rw [q1] at hv
    clear fin hl
    have hS := (Bk.new w 31 #[.int .i64 a, .int .i64 b, .int .i64 c, .int .i64 d, .int .i64 e]).alloc (.cells #[.int .i64 0, .int .i64 0, .int .i64 0, .int .i64 0, .int .i64 0] 31)
    have hR := Bk.new (w.alloc (.cells #[.int .i64 a, .int .i64 b, .int .i64 c, .int .i64 d, .int .i64 e] 31)) 31 #[.int .i64 0, .int .i64 0, .int .i64 0, .int .i64 0, .int .i64 0]
    rw [World.size_alloc] at hR
    go_enter Try.func18, Try.ntmps18
    go_wp2_with fail
    refine (hv _).mono ?_
    rintro x w1 ⟨rfl, hb1⟩
    have hB1 : Below w.heap.size w w1 := (by repeat (first | exact Below.refl _ _ | assumption | refine Below.setCell ?_ (by first | omega | (simp; done) | (simp; omega)) _ | refine Below.alloc ?_ (by first | omega | (simp; done) | (simp; omega)) _ | refine Below.drew ?_ | refine Below.drewN' ?_ _ | refine Below.trans ?_ (Below.mono (by assumption) (by first | omega | (simp; done) | (simp; omega)))))
    replace hS := hS.below hb1 (by first | omega | (simp; done) | (simp; omega))
    (try clear hS_c0); (try clear hS_f0)
    (try clear hS_c1); (try clear hS_f1)
    (try clear hS_c2); (try clear hS_f2)
    (try clear hS_c3); (try clear hS_f3)
    (try clear hS_c4); (try clear hS_f4)
    (try clear hS_lt)
    have hS_lt := hS.lt; (try simp only [World.size_alloc] at hS_lt)
    have hS_c0 := hS.cell 0; have hS_f0 := hS.frozen 0
    have hS_c1 := hS.cell 1; have hS_f1 := hS.frozen 1
    have hS_c2 := hS.cell 2; have hS_f2 := hS.frozen 2
    have hS_c3 := hS.cell 3; have hS_f3 := hS.frozen 3
    have hS_c4 := hS.cell 4; have hS_f4 := hS.frozen 4
    simp only [List.getElem?_toArray, List.getElem?_cons_zero, List.getElem?_cons_succ] at hS_c0 hS_c1 hS_c2 hS_c3 hS_c4
    replace hR := hR.below hb1 (by first | omega | (simp; done) | (simp; omega))
    (try clear hR_c0); (try clear hR_f0)
    (try clear hR_c1); (try clear hR_f1)
    (try clear hR_c2); (try clear hR_f2)
    (try clear hR_c3); (try clear hR_f3)
    (try clear hR_c4); (try clear hR_f4)
    (try clear hR_lt)
    have hR_lt := hR.lt; (try simp only [World.size_alloc] at hR_lt)
    have hR_c0 := hR.cell 0; have hR_f0 := hR.frozen 0
    have hR_c1 := hR.cell 1; have hR_f1 := hR.frozen 1
    have hR_c2 := hR.cell 2; have hR_f2 := hR.frozen 2
    have hR_c3 := hR.cell 3; have hR_f3 := hR.frozen 3
    have hR_c4 := hR.cell 4; have hR_f4 := hR.frozen 4
    simp only [List.getElem?_toArray, List.getElem?_cons_zero, List.getElem?_cons_succ] at hR_c0 hR_c1 hR_c2 hR_c3 hR_c4
    go_wp2
    refine ⟨rfl, ?_⟩
    apply Exists.intro
    apply And.intro
    · simp [results, Try.results18, go_sem, hR_c0, hR_c1, hR_c2, hR_c3, hR_c4, hR_lt]; exact rfl
    · exact ⟨rfl, (by repeat (first | exact Below.refl _ _ | assumption | refine Below.setCell ?_ (by first | omega | (simp; done) | (simp; omega)) _ | refine Below.alloc ?_ (by first | omega | (simp; done) | (simp; omega)) _ | refine Below.drew ?_ | refine Below.drewN' ?_ _ | refine Below.trans ?_ (Below.mono (by assumption) (by first | omega | (simp; done) | (simp; omega)))))⟩
  · rw [q1] at hv
    cases q2 : wtB wd t cm
    · rw [q2] at hl
      clear fin
      have hS := (Bk.new w 31 #[.int .i64 a, .int .i64 b, .int .i64 c, .int .i64 d, .int .i64 e]).alloc (.cells #[.int .i64 0, .int .i64 0, .int .i64 0, .int .i64 0, .int .i64 0] 31)
      have hR := Bk.new (w.alloc (.cells #[.int .i64 a, .int .i64 b, .int .i64 c, .int .i64 d, .int .i64 e] 31)) 31 #[.int .i64 0, .int .i64 0, .int .i64 0, .int .i64 0, .int .i64 0]
      rw [World.size_alloc] at hR
      go_enter Try.func18, Try.ntmps18
      go_wp2_with fail
      refine (hv _).mono ?_
      rintro x w1 ⟨rfl, hb1⟩
      have hB1 : Below w.heap.size w w1 := (by repeat (first | exact Below.refl _ _ | assumption | refine Below.setCell ?_ (by first | omega | (simp; done) | (simp; omega)) _ | refine Below.alloc ?_ (by first | omega | (simp; done) | (simp; omega)) _ | refine Below.drew ?_ | refine Below.drewN' ?_ _ | refine Below.trans ?_ (Below.mono (by assumption) (by first | omega | (simp; done) | (simp; omega)))))
      replace hS := hS.below hb1 (by first | omega | (simp; done) | (simp; omega))
      (try clear hS_c0); (try clear hS_f0)
      (try clear hS_c1); (try clear hS_f1)
      (try clear hS_c2); (try clear hS_f2)
      (try clear hS_c3); (try clear hS_f3)
      (try clear hS_c4); (try clear hS_f4)
      (try clear hS_lt)
      have hS_lt := hS.lt; (try simp only [World.size_alloc] at hS_lt)
      have hS_c0 := hS.cell 0; have hS_f0 := hS.frozen 0
      have hS_c1 := hS.cell 1; have hS_f1 := hS.frozen 1
      have hS_c2 := hS.cell 2; have hS_f2 := hS.frozen 2
      have hS_c3 := hS.cell 3; have hS_f3 := hS.frozen 3
      have hS_c4 := hS.cell 4; have hS_f4 := hS.frozen 4
      simp only [List.getElem?_toArray, List.getElem?_cons_zero, List.getElem?_cons_succ] at hS_c0 hS_c1 hS_c2 hS_c3 hS_c4
      replace hR := hR.below hb1 (by first | omega | (simp; done) | (simp; omega))
      (try clear hR_c0); (try clear hR_f0)
      (try clear hR_c1); (try clear hR_f1)
      (try clear hR_c2); (try clear hR_f2)
      (try clear hR_c3); (try clear hR_f3)
      (try clear hR_c4); (try clear hR_f4)
      (try clear hR_lt)
      have hR_lt := hR.lt; (try simp only [World.size_alloc] at hR_lt)
      have hR_c0 := hR.cell 0; have hR_f0 := hR.frozen 0
      have hR_c1 := hR.cell 1; have hR_f1 := hR.frozen 1
      have hR_c2 := hR.cell 2; have hR_f2 := hR.frozen 2
      have hR_c3 := hR.cell 3; have hR_f3 := hR.frozen 3
      have hR_c4 := hR.cell 4; have hR_f4 := hR.frozen 4
      simp only [List.getElem?_toArray, List.getElem?_cons_zero, List.getElem?_cons_succ] at hR_c0 hR_c1 hR_c2 hR_c3 hR_c4
      go_wp2_with (first | (go_at_call 47; refine (hl _).mono ?_; rintro x w2 ⟨rfl, rfl⟩))
      refine ⟨rfl, ?_⟩
      apply Exists.intro
      apply And.intro
      · simp [results, Try.results18, go_sem, hR_c0, hR_c1, hR_c2, hR_c3, hR_c4, hR_lt]; exact rfl
      · exact ⟨rfl, (by repeat (first | exact Below.refl _ _ | assumption | refine Below.setCell ?_ (by first | omega | (simp; done) | (simp; omega)) _ | refine Below.alloc ?_ (by first | omega | (simp; done) | (simp; omega)) _ | refine Below.drew ?_ | refine Below.drewN' ?_ _ | refine Below.trans ?_ (Below.mono (by assumption) (by first | omega | (simp; done) | (simp; omega)))))⟩
    · rw [q2] at hl
      have q3 : decide (wd < a) = true := by simp; have := fin q1 q2; omega
      clear fin
      have hS := (Bk.new w 31 #[.int .i64 a, .int .i64 b, .int .i64 c, .int .i64 d, .int .i64 e]).alloc (.cells #[.int .i64 0, .int .i64 0, .int .i64 0, .int .i64 0, .int .i64 0] 31)
      have hR := Bk.new (w.alloc (.cells #[.int .i64 a, .int .i64 b, .int .i64 c, .int .i64 d, .int .i64 e] 31)) 31 #[.int .i64 0, .int .i64 0, .int .i64 0, .int .i64 0, .int .i64 0]
      rw [World.size_alloc] at hR
      go_enter Try.func18, Try.ntmps18
      go_wp2_with fail
      refine (hv _).mono ?_
      rintro x w1 ⟨rfl, hb1⟩
      have hB1 : Below w.heap.size w w1 := (by repeat (first | exact Below.refl _ _ | assumption | refine Below.setCell ?_ (by first | omega | (simp; done) | (simp; omega)) _ | refine Below.alloc ?_ (by first | omega | (simp; done) | (simp; omega)) _ | refine Below.drew ?_ | refine Below.drewN' ?_ _ | refine Below.trans ?_ (Below.mono (by assumption) (by first | omega | (simp; done) | (simp; omega)))))
      replace hS := hS.below hb1 (by first | omega | (simp; done) | (simp; omega))
      (try clear hS_c0); (try clear hS_f0)
      (try clear hS_c1); (try clear hS_f1)
      (try clear hS_c2); (try clear hS_f2)
      (try clear hS_c3); (try clear hS_f3)
      (try clear hS_c4); (try clear hS_f4)
      (try clear hS_lt)
      have hS_lt := hS.lt; (try simp only [World.size_alloc] at hS_lt)
      have hS_c0 := hS.cell 0; have hS_f0 := hS.frozen 0
      have hS_c1 := hS.cell 1; have hS_f1 := hS.frozen 1
      have hS_c2 := hS.cell 2; have hS_f2 := hS.frozen 2
      have hS_c3 := hS.cell 3; have hS_f3 := hS.frozen 3
      have hS_c4 := hS.cell 4; have hS_f4 := hS.frozen 4
      simp only [List.getElem?_toArray, List.getElem?_cons_zero, List.getElem?_cons_succ] at hS_c0 hS_c1 hS_c2 hS_c3 hS_c4
      replace hR := hR.below hb1 (by first | omega | (simp; done) | (simp; omega))
      (try clear hR_c0); (try clear hR_f0)
      (try clear hR_c1); (try clear hR_f1)
      (try clear hR_c2); (try clear hR_f2)
      (try clear hR_c3); (try clear hR_f3)
      (try clear hR_c4); (try clear hR_f4)
      (try clear hR_lt)
      have hR_lt := hR.lt; (try simp only [World.size_alloc] at hR_lt)
      have hR_c0 := hR.cell 0; have hR_f0 := hR.frozen 0
      have hR_c1 := hR.cell 1; have hR_f1 := hR.frozen 1
      have hR_c2 := hR.cell 2; have hR_f2 := hR.frozen 2
      have hR_c3 := hR.cell 3; have hR_f3 := hR.frozen 3
      have hR_c4 := hR.cell 4; have hR_f4 := hR.frozen 4
      simp only [List.getElem?_toArray, List.getElem?_cons_zero, List.getElem?_cons_succ] at hR_c0 hR_c1 hR_c2 hR_c3 hR_c4
      go_wp2_with (first | (go_at_call 47; refine (hl _).mono ?_; rintro x w2 ⟨rfl, rfl⟩))
      refine ⟨rfl, ?_⟩
      apply Exists.intro
      apply And.intro
      · simp [results, Try.results18, go_sem, hR_c0, hR_c1, hR_c2, hR_c3, hR_c4, hR_lt]; exact rfl
      · exact ⟨rfl, (by repeat (first | exact Below.refl _ _ | assumption | refine Below.setCell ?_ (by first | omega | (simp; done) | (simp; omega)) _ | refine Below.alloc ?_ (by first | omega | (simp; done) | (simp; omega)) _ | refine Below.drew ?_ | refine Below.drewN' ?_ _ | refine Below.trans ?_ (Below.mono (by assumption) (by first | omega | (simp; done) | (simp; omega)))))⟩

theorem putD_max (d e t cm : Int) : d + max (cm - t - e) (e - (cm - t)) - (d + 8) / 16 = putD d e t cm := by
  unfold putD absI
  split <;> omega

set_option maxHeartbeats 4000000 in
theorem sput_in (a b c d e wd t cm : Int) (w : World) (h : PutIn a b c d e wd t cm) (r : Bool) (hr : stB a (max b wd) (c + 1) (putD d e t cm) (cm - t) = r) :
    Calls Try.prog 18 #[.agg #[.int .i64 a, .int .i64 b, .int .i64 c, .int .i64 d, .int .i64 e], .int .i64 wd, .int .i64 t, .int .i64 cm] w fun x w' => (if r then putGood a b c d e wd t cm w x w' else putBad w x w') := by
  obtain ⟨h1, h2, h3⟩ := h
  obtain ⟨a1, a2, a3, a4, a5, a6, a7, a8, a9, a10, a11⟩ := id h1
  obtain ⟨b1, b2, b3, b4, b5, b6⟩ := id h2
  have q1 : stB a b c d e = true := decide_eq_true h1
  have q2 : wtB wd t cm = true := decide_eq_true h2
  have q3 : decide (wd < a) = false := by simp; omega
  have hv := fun w => sstv_any a b c d e w
  have hl := fun w => l14ok_any wd t cm w
  rw [q1] at hv
  rw [q2] at hl
  have HP := Lib.hid (putD_max d e t cm)
  have hv2 := fun w => sstv_any a (max b wd) (c + 1) (putD d e t cm) (cm - t) w
  rw [hr, ← HP.out] at hv2
  have HV2 := Lib.hid hv2
  clear h1 h2 q1 q2 hr hv2
  have hmx := fun (w : World) (ts : Array TypeId) (t : TypeId) (x y : Int) => run_max_plain (P := Try.prog) w ts t x y
  cases r
  · simp only [Bool.false_eq_true, if_false]
    have hS := (Bk.new w 31 #[.int .i64 a, .int .i64 b, .int .i64 c, .int .i64 d, .int .i64 e]).alloc (.cells #[.int .i64 0, .int .i64 0, .int .i64 0, .int .i64 0, .int .i64 0] 31)
    have hR := Bk.new (w.alloc (.cells #[.int .i64 a, .int .i64 b, .int .i64 c, .int .i64 d, .int .i64 e] 31)) 31 #[.int .i64 0, .int .i64 0, .int .i64 0, .int .i64 0, .int .i64 0]
    rw [World.size_alloc] at hR
    go_enter Try.func18, Try.ntmps18
    go_wp2_with fail
    refine (hv _).mono ?_
    rintro x w1 ⟨rfl, hb1⟩
    have hB1 : Below w.heap.size w w1 := (by repeat (first | exact Below.refl _ _ | assumption | refine Below.setCell ?_ (by first | omega | (simp; done) | (simp; omega)) _ | refine Below.alloc ?_ (by first | omega | (simp; done) | (simp; omega)) _ | refine Below.drew ?_ | refine Below.drewN' ?_ _ | refine Below.trans ?_ (Below.mono (by assumption) (by first | omega | (simp; done) | (simp; omega)))))
    replace hS := hS.below hb1 (by first | omega | (simp; done) | (simp; omega))
    (try clear hS_c0); (try clear hS_f0)
    (try clear hS_c1); (try clear hS_f1)
    (try clear hS_c2); (try clear hS_f2)
    (try clear hS_c3); (try clear hS_f3)
    (try clear hS_c4); (try clear hS_f4)
    (try clear hS_lt)
    have hS_lt := hS.lt; (try simp only [World.size_alloc] at hS_lt)
    have hS_c0 := hS.cell 0; have hS_f0 := hS.frozen 0
    have hS_c1 := hS.cell 1; have hS_f1 := hS.frozen 1
    have hS_c2 := hS.cell 2; have hS_f2 := hS.frozen 2
    have hS_c3 := hS.cell 3; have hS_f3 := hS.frozen 3
    have hS_c4 := hS.cell 4; have hS_f4 := hS.frozen 4
    simp only [List.getElem?_toArray, List.getElem?_cons_zero, List.getElem?_cons_succ] at hS_c0 hS_c1 hS_c2 hS_c3 hS_c4
    replace hR := hR.below hb1 (by first | omega | (simp; done) | (simp; omega))
    (try clear hR_c0); (try clear hR_f0)
    (try clear hR_c1); (try clear hR_f1)
    (try clear hR_c2); (try clear hR_f2)
    (try clear hR_c3); (try clear hR_f3)
    (try clear hR_c4); (try clear hR_f4)
    (try clear hR_lt)
    have hR_lt := hR.lt; (try simp only [World.size_alloc] at hR_lt)
    have hR_c0 := hR.cell 0; have hR_f0 := hR.frozen 0
    have hR_c1 := hR.cell 1; have hR_f1 := hR.frozen 1
    have hR_c2 := hR.cell 2; have hR_f2 := hR.frozen 2
    have hR_c3 := hR.cell 3; have hR_f3 := hR.frozen 3
    have hR_c4 := hR.cell 4; have hR_f4 := hR.frozen 4
    simp only [List.getElem?_toArray, List.getElem?_cons_zero, List.getElem?_cons_succ] at hR_c0 hR_c1 hR_c2 hR_c3 hR_c4
    go_wp2_with (first | (go_at_call 47; refine (hl _).mono ?_; rintro x w2 ⟨rfl, rfl⟩))
    refine (HV2.out _).mono ?_
    rintro x w2 ⟨rfl, hb2⟩
    have s1 := hB1.size
    have hB2 : Below w.heap.size w w2 := (by repeat (first | exact Below.refl _ _ | assumption | refine Below.setCell ?_ (by first | omega | (simp; done) | (simp; omega)) _ | refine Below.alloc ?_ (by first | omega | (simp; done) | (simp; omega)) _ | refine Below.drew ?_ | refine Below.drewN' ?_ _ | refine Below.trans ?_ (Below.mono (by assumption) (by first | omega | (simp; done) | (simp; omega)))))
    have hO := (Bk.new w1 31 #[.int .i64 a, .int .i64 (max b wd), .int .i64 (c + 1), .int .i64 (d + max (cm - t - e) (e - (cm - t)) - (d + 8) / 16), .int .i64 (cm - t)]).below hb2 (by simp)
    replace hS := hS.alloc (.cells #[.int .i64 a, .int .i64 (max b wd), .int .i64 (c + 1), .int .i64 (d + max (cm - t - e) (e - (cm - t)) - (d + 8) / 16), .int .i64 (cm - t)] 31)
    replace hR := hR.alloc (.cells #[.int .i64 a, .int .i64 (max b wd), .int .i64 (c + 1), .int .i64 (d + max (cm - t - e) (e - (cm - t)) - (d + 8) / 16), .int .i64 (cm - t)] 31)
    replace hS := hS.below hb2 (by first | omega | (simp; done) | (simp; omega))
    (try clear hS_c0); (try clear hS_f0)
    (try clear hS_c1); (try clear hS_f1)
    (try clear hS_c2); (try clear hS_f2)
    (try clear hS_c3); (try clear hS_f3)
    (try clear hS_c4); (try clear hS_f4)
    (try clear hS_lt)
    have hS_lt := hS.lt; (try simp only [World.size_alloc] at hS_lt)
    have hS_c0 := hS.cell 0; have hS_f0 := hS.frozen 0
    have hS_c1 := hS.cell 1; have hS_f1 := hS.frozen 1
    have hS_c2 := hS.cell 2; have hS_f2 := hS.frozen 2
    have hS_c3 := hS.cell 3; have hS_f3 := hS.frozen 3
    have hS_c4 := hS.cell 4; have hS_f4 := hS.frozen 4
    simp only [List.getElem?_toArray, List.getElem?_cons_zero, List.getElem?_cons_succ] at hS_c0 hS_c1 hS_c2 hS_c3 hS_c4
    replace hR := hR.below hb2 (by first | omega | (simp; done) | (simp; omega))
    (try clear hR_c0); (try clear hR_f0)
    (try clear hR_c1); (try clear hR_f1)
    (try clear hR_c2); (try clear hR_f2)
    (try clear hR_c3); (try clear hR_f3)
    (try clear hR_c4); (try clear hR_f4)
    (try clear hR_lt)
    have hR_lt := hR.lt; (try simp only [World.size_alloc] at hR_lt)
    have hR_c0 := hR.cell 0; have hR_f0 := hR.frozen 0
    have hR_c1 := hR.cell 1; have hR_f1 := hR.frozen 1
    have hR_c2 := hR.cell 2; have hR_f2 := hR.frozen 2
    have hR_c3 := hR.cell 3; have hR_f3 := hR.frozen 3
    have hR_c4 := hR.cell 4; have hR_f4 := hR.frozen 4
    simp only [List.getElem?_toArray, List.getElem?_cons_zero, List.getElem?_cons_succ] at hR_c0 hR_c1 hR_c2 hR_c3 hR_c4
    (try clear hO_c0); (try clear hO_f0)
    (try clear hO_c1); (try clear hO_f1)
    (try clear hO_c2); (try clear hO_f2)
    (try clear hO_c3); (try clear hO_f3)
    (try clear hO_c4); (try clear hO_f4)
    (try clear hO_lt)
    have hO_lt := hO.lt; (try simp only [World.size_alloc] at hO_lt)
    have hO_c0 := hO.cell 0; have hO_f0 := hO.frozen 0
    have hO_c1 := hO.cell 1; have hO_f1 := hO.frozen 1
    have hO_c2 := hO.cell 2; have hO_f2 := hO.frozen 2
    have hO_c3 := hO.cell 3; have hO_f3 := hO.frozen 3
    have hO_c4 := hO.cell 4; have hO_f4 := hO.frozen 4
    simp only [List.getElem?_toArray, List.getElem?_cons_zero, List.getElem?_cons_succ] at hO_c0 hO_c1 hO_c2 hO_c3 hO_c4
    clear hb1 hb2 hB1
    go_wp2
    refine ⟨rfl, ?_⟩
    apply Exists.intro
    apply And.intro
    · simp [results, Try.results18, go_sem, hR_c0, hR_c1, hR_c2, hR_c3, hR_c4, hR_lt]; exact rfl
    · exact ⟨rfl, (by repeat (first | exact Below.refl _ _ | assumption | refine Below.setCell ?_ (by first | omega | (simp; done) | (simp; omega)) _ | refine Below.alloc ?_ (by first | omega | (simp; done) | (simp; omega)) _ | refine Below.drew ?_ | refine Below.drewN' ?_ _ | refine Below.trans ?_ (Below.mono (by assumption) (by first | omega | (simp; done) | (simp; omega)))))⟩
  · simp only [if_true]
    have hS := (Bk.new w 31 #[.int .i64 a, .int .i64 b, .int .i64 c, .int .i64 d, .int .i64 e]).alloc (.cells #[.int .i64 0, .int .i64 0, .int .i64 0, .int .i64 0, .int .i64 0] 31)
    have hR := Bk.new (w.alloc (.cells #[.int .i64 a, .int .i64 b, .int .i64 c, .int .i64 d, .int .i64 e] 31)) 31 #[.int .i64 0, .int .i64 0, .int .i64 0, .int .i64 0, .int .i64 0]
    rw [World.size_alloc] at hR
    go_enter Try.func18, Try.ntmps18
    go_wp2_with fail
    refine (hv _).mono ?_
    rintro x w1 ⟨rfl, hb1⟩
    have hB1 : Below w.heap.size w w1 := (by repeat (first | exact Below.refl _ _ | assumption | refine Below.setCell ?_ (by first | omega | (simp; done) | (simp; omega)) _ | refine Below.alloc ?_ (by first | omega | (simp; done) | (simp; omega)) _ | refine Below.drew ?_ | refine Below.drewN' ?_ _ | refine Below.trans ?_ (Below.mono (by assumption) (by first | omega | (simp; done) | (simp; omega)))))
    replace hS := hS.below hb1 (by first | omega | (simp; done) | (simp; omega))
    (try clear hS_c0); (try clear hS_f0)
    (try clear hS_c1); (try clear hS_f1)
    (try clear hS_c2); (try clear hS_f2)
    (try clear hS_c3); (try clear hS_f3)
    (try clear hS_c4); (try clear hS_f4)
    (try clear hS_lt)
    have hS_lt := hS.lt; (try simp only [World.size_alloc] at hS_lt)
    have hS_c0 := hS.cell 0; have hS_f0 := hS.frozen 0
    have hS_c1 := hS.cell 1; have hS_f1 := hS.frozen 1
    have hS_c2 := hS.cell 2; have hS_f2 := hS.frozen 2
    have hS_c3 := hS.cell 3; have hS_f3 := hS.frozen 3
    have hS_c4 := hS.cell 4; have hS_f4 := hS.frozen 4
    simp only [List.getElem?_toArray, List.getElem?_cons_zero, List.getElem?_cons_succ] at hS_c0 hS_c1 hS_c2 hS_c3 hS_c4
    replace hR := hR.below hb1 (by first | omega | (simp; done) | (simp; omega))
    (try clear hR_c0); (try clear hR_f0)
    (try clear hR_c1); (try clear hR_f1)
    (try clear hR_c2); (try clear hR_f2)
    (try clear hR_c3); (try clear hR_f3)
    (try clear hR_c4); (try clear hR_f4)
    (try clear hR_lt)
    have hR_lt := hR.lt; (try simp only [World.size_alloc] at hR_lt)
    have hR_c0 := hR.cell 0; have hR_f0 := hR.frozen 0
    have hR_c1 := hR.cell 1; have hR_f1 := hR.frozen 1
    have hR_c2 := hR.cell 2; have hR_f2 := hR.frozen 2
    have hR_c3 := hR.cell 3; have hR_f3 := hR.frozen 3
    have hR_c4 := hR.cell 4; have hR_f4 := hR.frozen 4
    simp only [List.getElem?_toArray, List.getElem?_cons_zero, List.getElem?_cons_succ] at hR_c0 hR_c1 hR_c2 hR_c3 hR_c4
    go_wp2_with (first | (go_at_call 47; refine (hl _).mono ?_; rintro x w2 ⟨rfl, rfl⟩))
    refine (HV2.out _).mono ?_
    rintro x w2 ⟨rfl, hb2⟩
    have s1 := hB1.size
    have hB2 : Below w.heap.size w w2 := (by repeat (first | exact Below.refl _ _ | assumption | refine Below.setCell ?_ (by first | omega | (simp; done) | (simp; omega)) _ | refine Below.alloc ?_ (by first | omega | (simp; done) | (simp; omega)) _ | refine Below.drew ?_ | refine Below.drewN' ?_ _ | refine Below.trans ?_ (Below.mono (by assumption) (by first | omega | (simp; done) | (simp; omega)))))
    have hO := (Bk.new w1 31 #[.int .i64 a, .int .i64 (max b wd), .int .i64 (c + 1), .int .i64 (d + max (cm - t - e) (e - (cm - t)) - (d + 8) / 16), .int .i64 (cm - t)]).below hb2 (by simp)
    replace hS := hS.alloc (.cells #[.int .i64 a, .int .i64 (max b wd), .int .i64 (c + 1), .int .i64 (d + max (cm - t - e) (e - (cm - t)) - (d + 8) / 16), .int .i64 (cm - t)] 31)
    replace hR := hR.alloc (.cells #[.int .i64 a, .int .i64 (max b wd), .int .i64 (c + 1), .int .i64 (d + max (cm - t - e) (e - (cm - t)) - (d + 8) / 16), .int .i64 (cm - t)] 31)
    replace hS := hS.below hb2 (by first | omega | (simp; done) | (simp; omega))
    (try clear hS_c0); (try clear hS_f0)
    (try clear hS_c1); (try clear hS_f1)
    (try clear hS_c2); (try clear hS_f2)
    (try clear hS_c3); (try clear hS_f3)
    (try clear hS_c4); (try clear hS_f4)
    (try clear hS_lt)
    have hS_lt := hS.lt; (try simp only [World.size_alloc] at hS_lt)
    have hS_c0 := hS.cell 0; have hS_f0 := hS.frozen 0
    have hS_c1 := hS.cell 1; have hS_f1 := hS.frozen 1
    have hS_c2 := hS.cell 2; have hS_f2 := hS.frozen 2
    have hS_c3 := hS.cell 3; have hS_f3 := hS.frozen 3
    have hS_c4 := hS.cell 4; have hS_f4 := hS.frozen 4
    simp only [List.getElem?_toArray, List.getElem?_cons_zero, List.getElem?_cons_succ] at hS_c0 hS_c1 hS_c2 hS_c3 hS_c4
    replace hR := hR.below hb2 (by first | omega | (simp; done) | (simp; omega))
    (try clear hR_c0); (try clear hR_f0)
    (try clear hR_c1); (try clear hR_f1)
    (try clear hR_c2); (try clear hR_f2)
    (try clear hR_c3); (try clear hR_f3)
    (try clear hR_c4); (try clear hR_f4)
    (try clear hR_lt)
    have hR_lt := hR.lt; (try simp only [World.size_alloc] at hR_lt)
    have hR_c0 := hR.cell 0; have hR_f0 := hR.frozen 0
    have hR_c1 := hR.cell 1; have hR_f1 := hR.frozen 1
    have hR_c2 := hR.cell 2; have hR_f2 := hR.frozen 2
    have hR_c3 := hR.cell 3; have hR_f3 := hR.frozen 3
    have hR_c4 := hR.cell 4; have hR_f4 := hR.frozen 4
    simp only [List.getElem?_toArray, List.getElem?_cons_zero, List.getElem?_cons_succ] at hR_c0 hR_c1 hR_c2 hR_c3 hR_c4
    (try clear hO_c0); (try clear hO_f0)
    (try clear hO_c1); (try clear hO_f1)
    (try clear hO_c2); (try clear hO_f2)
    (try clear hO_c3); (try clear hO_f3)
    (try clear hO_c4); (try clear hO_f4)
    (try clear hO_lt)
    have hO_lt := hO.lt; (try simp only [World.size_alloc] at hO_lt)
    have hO_c0 := hO.cell 0; have hO_f0 := hO.frozen 0
    have hO_c1 := hO.cell 1; have hO_f1 := hO.frozen 1
    have hO_c2 := hO.cell 2; have hO_f2 := hO.frozen 2
    have hO_c3 := hO.cell 3; have hO_f3 := hO.frozen 3
    have hO_c4 := hO.cell 4; have hO_f4 := hO.frozen 4
    simp only [List.getElem?_toArray, List.getElem?_cons_zero, List.getElem?_cons_succ] at hO_c0 hO_c1 hO_c2 hO_c3 hO_c4
    clear hb1 hb2 hB1
    go_wp2
    refine ⟨rfl, ?_⟩
    apply Exists.intro
    apply And.intro
    · simp [results, Try.results18, go_sem, hR_c0, hR_c1, hR_c2, hR_c3, hR_c4, hR_lt]; exact rfl
    · exact ⟨by rw [HP.out], (by repeat (first | exact Below.refl _ _ | assumption | refine Below.setCell ?_ (by first | omega | (simp; done) | (simp; omega)) _ | refine Below.alloc ?_ (by first | omega | (simp; done) | (simp; omega)) _ | refine Below.drew ?_ | refine Below.drewN' ?_ _ | refine Below.trans ?_ (Below.mono (by assumption) (by first | omega | (simp; done) | (simp; omega)))))⟩
end Go.Proofs.Ytambjhapnhmmmaa
