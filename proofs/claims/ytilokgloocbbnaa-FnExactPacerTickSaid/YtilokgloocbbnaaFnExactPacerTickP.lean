/-
  The statement FnExactPacerTick: the law returns true for every input, and what was there before the call has not turned.
  No condition beyond the given statement.
-/
import Derived.Test.YtilokgloocbbnaaRows
import Derived.WalkKit
import Derived.ProofKit
import Derived.OpenShut
import Derived.ShutString
import Derived.ChangeOld
import Derived.Below
import Derived.Test.YtilokgloocbbnaaPac
import Derived.Test.YtilokgloocbbnaaPacB
import Derived.Test.YtilokgloocbbnaaPacP
import Derived.Test.YtilokgloocbbnaaPacH
import Derived.Test.YtilokgloocbbnaaPacI
import Derived.Test.YtilokgloocbbnaaPacJ
import Derived.Test.YtilokgloocbbnaaPacK
import Derived.Test.YtilokgloocbbnaaSeqW
import Derived.Test.YtilokgloocbbnaaPacX
import Derived.Test.YtilokgloocbbnaaPacY
import Derived.Test.YtilokgloocbbnaaOpenP
namespace Go.Proofs.Ytilokgloocbbnaa.fnExactPacerTick
open Go.ChangeShapes Go.WideShapes Go.ChangeAt Go.RowKit
set_option linter.unusedVariables false
set_option linter.unusedSimpArgs false

theorem own : ownKnob Try.prog.godebug = none := by kernel_rfl
theorem laidOut : laidOutB Try.prog = true := by kernel_rfl


/-! ### STEP 1: THE WALK -/
set_option maxHeartbeats 4000000 in
set_option maxRecDepth 100000 in
theorem walk (ea cr : Int) (A : Option Addr) (n c : Nat) (xs : List Wt) (w : World) (hws : Wts w w.heap.size A n xs) (hnc : n ≤ c) (hcm : c ≤ maxLen) :
    Calls Try.prog 12 #[.agg #[.int .i64 ea, .int .i64 cr, .slice A n c]] w fun e w' => e = .returned (.bool true) ∧ Below w.heap.size w w' := by
  obtain rfl := hws.len
  by_cases hbig : 1048576 < xs.length
  · have hnm : xs.length ≤ maxLen := by omega
    go_enter Try.func12, Try.ntmps12
    go_wp2_with fail
    refine (szP_no ea cr A xs.length c _ hbig hnm).mono ?_
    rintro x w1 ⟨rfl, hb1⟩
    have hB1 : Below w.heap.size w w1 := (by repeat (first | exact Below.refl _ _ | assumption | refine Below.setCell ?_ (by first | omega | (simp; done) | (simp; omega)) _ | refine Below.alloc ?_ (by first | omega | (simp; done) | (simp; omega)) _ | refine Below.drew ?_ | refine Below.drewN' ?_ _ | refine Below.trans ?_ (Below.mono (by assumption) (by first | omega | (simp; done) | (simp; omega)))))
    go_wp2
    go_ret
    exact ⟨rfl, hB1⟩
  · have hn20 : xs.length ≤ 1048576 := by omega
    have hn21 : xs.length ≤ 2097152 := by omega
    have hn40 : xs.length ≤ 1099511627776 := by omega
    have e0 : decide ((1048576 : Int) - xs.length < 0) = false := by simp; omega
    have hP := Bk.new w 42 #[.int .i64 ea, .int .i64 cr, .slice A xs.length c]
    go_enter Try.func12, Try.ntmps12
    go_wp2_with fail
    refine (szP_ok ea cr A xs.length c _ hn20).mono ?_
    rintro x w1 ⟨rfl, hb1⟩
    have hB1 : Below w.heap.size w w1 := (by repeat (first | exact Below.refl _ _ | assumption | refine Below.setCell ?_ (by first | omega | (simp; done) | (simp; omega)) _ | refine Below.alloc ?_ (by first | omega | (simp; done) | (simp; omega)) _ | refine Below.drew ?_ | refine Below.drewN' ?_ _ | refine Below.trans ?_ (Below.mono (by assumption) (by first | omega | (simp; done) | (simp; omega)))))
    replace hP := hP.below hb1 (by first | omega | exact hP.lt | (simp; done) | (simp; omega))
    (try clear hP_c0); (try clear hP_f0)
    (try clear hP_c1); (try clear hP_f1)
    (try clear hP_c2); (try clear hP_f2)
    (try clear hP_lt)
    have hP_lt := hP.lt; (try simp only [World.size_alloc] at hP_lt)
    have hP_c0 := hP.cell 0; have hP_f0 := hP.frozen 0
    have hP_c1 := hP.cell 1; have hP_f1 := hP.frozen 1
    have hP_c2 := hP.cell 2; have hP_f2 := hP.frozen 2
    simp only [List.getElem?_toArray, List.getElem?_cons_zero, List.getElem?_cons_succ] at hP_c0 hP_c1 hP_c2
    have hX : Wts w1 w.heap.size A xs.length xs := Wts.below hws hB1
    have hsw1 := hB1.size
    clear hb1 hws
    have hyl := tY_le ea cr xs
    have hzl := tZ_le ea cr xs
    have hyl2 : (tY ea cr xs).length ≤ 2097152 := by omega
    have hzl2 : (tZ ea cr xs).length ≤ 2097152 := by omega
    go_wp2_with fail
    refine (toP_MR ea cr A xs.length c w.heap.size xs w1 hX hsw1 hn21).mono ?_
    rintro x w2 ⟨g2, rfl, m2, hb2⟩
    replace hP := hP.below hb2 (by first | omega | exact hP.lt | (simp; done) | (simp; omega))
    (try clear hP_c0); (try clear hP_f0)
    (try clear hP_c1); (try clear hP_f1)
    (try clear hP_c2); (try clear hP_f2)
    (try clear hP_lt)
    have hP_lt := hP.lt; (try simp only [World.size_alloc] at hP_lt)
    have hP_c0 := hP.cell 0; have hP_f0 := hP.frozen 0
    have hP_c1 := hP.cell 1; have hP_f1 := hP.frozen 1
    have hP_c2 := hP.cell 2; have hP_f2 := hP.frozen 2
    simp only [List.getElem?_toArray, List.getElem?_cons_zero, List.getElem?_cons_succ] at hP_c0 hP_c1 hP_c2
    replace hX := hX.below (hb2.mono hsw1)
    have hB2 : Below w.heap.size w w2 := hB1.trans (hb2.mono hsw1)
    have hsw2 := hB2.size
    clear hb2
    go_wp2_with fail
    refine (stick_all ea cr (some ⟨g2, 0, none⟩) xs.length xs.length xs w2 m2.seq hn40 (Nat.le_refl _) (by omega)).mono ?_
    rintro x w3 ⟨A3, c3, g3, cs3, B3, d3, f3, ds3, rfl, my3, mz3, -, hb3⟩
    clear m2
    replace hP := hP.below hb3 (by first | omega | exact hP.lt | (simp; done) | (simp; omega))
    (try clear hP_c0); (try clear hP_f0)
    (try clear hP_c1); (try clear hP_f1)
    (try clear hP_c2); (try clear hP_f2)
    (try clear hP_lt)
    have hP_lt := hP.lt; (try simp only [World.size_alloc] at hP_lt)
    have hP_c0 := hP.cell 0; have hP_f0 := hP.frozen 0
    have hP_c1 := hP.cell 1; have hP_f1 := hP.frozen 1
    have hP_c2 := hP.cell 2; have hP_f2 := hP.frozen 2
    simp only [List.getElem?_toArray, List.getElem?_cons_zero, List.getElem?_cons_succ] at hP_c0 hP_c1 hP_c2
    replace hX := hX.below (hb3.mono hsw2)
    have hB3 : Below w.heap.size w w3 := hB2.trans (hb3.mono hsw2)
    have hsw3 := hB3.size
    clear hb3
    have ly3 : 0 < (tY ea cr xs).length → g3 < w3.heap.size := fun hp => (my3.row hp).2.2.1
    have lz3 : 0 < (tZ ea cr xs).length → f3 < w3.heap.size := fun hp => (mz3.row hp).2.2.1
    have hbx : Below w3.heap.size w3 (w3.alloc (.cells #[.int .i64 (tE ea cr xs), .int .i64 (tC ea cr xs), .slice A3 (tY ea cr xs).length c3] 25)) := (by repeat (first | exact Below.refl _ _ | assumption | refine Below.setCell ?_ (by first | omega | (simp; done) | (simp; omega)) _ | refine Below.alloc ?_ (by first | omega | (simp; done) | (simp; omega)) _ | refine Below.drew ?_ | refine Below.drewN' ?_ _ | refine Below.trans ?_ (Below.mono (by assumption) (by first | omega | (simp; done) | (simp; omega)))))
    have hO4 := Bk.new w3 25 #[.int .i64 (tE ea cr xs), .int .i64 (tC ea cr xs), .slice A3 (tY ea cr xs).length c3]
    replace hP := hP.below hbx hP.lt
    replace hX := hX.below (hbx.mono hsw3)
    replace my3 := my3.below_ hbx
    replace mz3 := mz3.below_ hbx
    have hBx := hB3.trans (hbx.mono hsw3)
    have hswx := hBx.size
    (try clear hP_c0); (try clear hP_f0)
    (try clear hP_c1); (try clear hP_f1)
    (try clear hP_c2); (try clear hP_f2)
    (try clear hP_lt)
    have hP_lt := hP.lt; (try simp only [World.size_alloc] at hP_lt)
    have hP_c0 := hP.cell 0; have hP_f0 := hP.frozen 0
    have hP_c1 := hP.cell 1; have hP_f1 := hP.frozen 1
    have hP_c2 := hP.cell 2; have hP_f2 := hP.frozen 2
    simp only [List.getElem?_toArray, List.getElem?_cons_zero, List.getElem?_cons_succ] at hP_c0 hP_c1 hP_c2
    (try clear hO4_c0); (try clear hO4_f0)
    (try clear hO4_c1); (try clear hO4_f1)
    (try clear hO4_c2); (try clear hO4_f2)
    (try clear hO4_lt)
    have hO4_lt := hO4.lt; (try simp only [World.size_alloc] at hO4_lt)
    have hO4_c0 := hO4.cell 0; have hO4_f0 := hO4.frozen 0
    have hO4_c1 := hO4.cell 1; have hO4_f1 := hO4.frozen 1
    have hO4_c2 := hO4.cell 2; have hO4_f2 := hO4.frozen 2
    simp only [List.getElem?_toArray, List.getElem?_cons_zero, List.getElem?_cons_succ] at hO4_c0 hO4_c1 hO4_c2
    clear hbx
    go_wp2_with fail
    refine (toP_MR ea cr A xs.length c w.heap.size xs _ hX hswx hn21).mono ?_
    rintro x w4 ⟨g4, rfl, m4, hb4⟩
    replace m4 := m4.le_ (N' := w3.heap.size + 1) (by simp)
    replace hP := hP.below hb4 (by first | omega | exact hP.lt | (simp; done) | (simp; omega))
    (try clear hP_c0); (try clear hP_f0)
    (try clear hP_c1); (try clear hP_f1)
    (try clear hP_c2); (try clear hP_f2)
    (try clear hP_lt)
    have hP_lt := hP.lt; (try simp only [World.size_alloc] at hP_lt)
    have hP_c0 := hP.cell 0; have hP_f0 := hP.frozen 0
    have hP_c1 := hP.cell 1; have hP_f1 := hP.frozen 1
    have hP_c2 := hP.cell 2; have hP_f2 := hP.frozen 2
    simp only [List.getElem?_toArray, List.getElem?_cons_zero, List.getElem?_cons_succ] at hP_c0 hP_c1 hP_c2
    replace hO4 := hO4.below hb4 (by first | omega | exact hO4.lt | (simp; done) | (simp; omega))
    (try clear hO4_c0); (try clear hO4_f0)
    (try clear hO4_c1); (try clear hO4_f1)
    (try clear hO4_c2); (try clear hO4_f2)
    (try clear hO4_lt)
    have hO4_lt := hO4.lt; (try simp only [World.size_alloc] at hO4_lt)
    have hO4_c0 := hO4.cell 0; have hO4_f0 := hO4.frozen 0
    have hO4_c1 := hO4.cell 1; have hO4_f1 := hO4.frozen 1
    have hO4_c2 := hO4.cell 2; have hO4_f2 := hO4.frozen 2
    simp only [List.getElem?_toArray, List.getElem?_cons_zero, List.getElem?_cons_succ] at hO4_c0 hO4_c1 hO4_c2
    replace hX := hX.below (hb4.mono hswx)
    replace my3 := my3.below_ hb4
    replace mz3 := mz3.below_ hb4
    have hB4 : Below w.heap.size w w4 := hBx.trans (hb4.mono hswx)
    have hsw4 := hB4.size
    have hs34 : w3.heap.size + 1 ≤ w4.heap.size := by have := hb4.size; simpa using this
    clear hb4 hBx hswx
    have l4 : 0 < xs.length → g4 < w4.heap.size := fun hp => (m4.row hp).2.2.1
    have n4 : 0 < xs.length → w3.heap.size + 1 ≤ g4 := fun hp => (m4.row hp).2.1
    have hbx : Below w4.heap.size w4 (w4.alloc (.cells #[.int .i64 ea, .int .i64 cr, .slice (some ⟨g4, 0, none⟩) xs.length xs.length] 25)) := (by repeat (first | exact Below.refl _ _ | assumption | refine Below.setCell ?_ (by first | omega | (simp; done) | (simp; omega)) _ | refine Below.alloc ?_ (by first | omega | (simp; done) | (simp; omega)) _ | refine Below.drew ?_ | refine Below.drewN' ?_ _ | refine Below.trans ?_ (Below.mono (by assumption) (by first | omega | (simp; done) | (simp; omega)))))
    have hO7 := Bk.new w4 25 #[.int .i64 ea, .int .i64 cr, .slice (some ⟨g4, 0, none⟩) xs.length xs.length]
    replace hP := hP.below hbx hP.lt
    replace hO4 := hO4.below hbx hO4.lt
    replace hX := hX.below (hbx.mono hsw4)
    replace my3 := my3.below_ hbx
    replace mz3 := mz3.below_ hbx
    replace m4 := m4.below_ hbx
    have hBx := hB4.trans (hbx.mono hsw4)
    have hswx := hBx.size
    (try clear hP_c0); (try clear hP_f0)
    (try clear hP_c1); (try clear hP_f1)
    (try clear hP_c2); (try clear hP_f2)
    (try clear hP_lt)
    have hP_lt := hP.lt; (try simp only [World.size_alloc] at hP_lt)
    have hP_c0 := hP.cell 0; have hP_f0 := hP.frozen 0
    have hP_c1 := hP.cell 1; have hP_f1 := hP.frozen 1
    have hP_c2 := hP.cell 2; have hP_f2 := hP.frozen 2
    simp only [List.getElem?_toArray, List.getElem?_cons_zero, List.getElem?_cons_succ] at hP_c0 hP_c1 hP_c2
    (try clear hO4_c0); (try clear hO4_f0)
    (try clear hO4_c1); (try clear hO4_f1)
    (try clear hO4_c2); (try clear hO4_f2)
    (try clear hO4_lt)
    have hO4_lt := hO4.lt; (try simp only [World.size_alloc] at hO4_lt)
    have hO4_c0 := hO4.cell 0; have hO4_f0 := hO4.frozen 0
    have hO4_c1 := hO4.cell 1; have hO4_f1 := hO4.frozen 1
    have hO4_c2 := hO4.cell 2; have hO4_f2 := hO4.frozen 2
    simp only [List.getElem?_toArray, List.getElem?_cons_zero, List.getElem?_cons_succ] at hO4_c0 hO4_c1 hO4_c2
    (try clear hO7_c0); (try clear hO7_f0)
    (try clear hO7_c1); (try clear hO7_f1)
    (try clear hO7_c2); (try clear hO7_f2)
    (try clear hO7_lt)
    have hO7_lt := hO7.lt; (try simp only [World.size_alloc] at hO7_lt)
    have hO7_c0 := hO7.cell 0; have hO7_f0 := hO7.frozen 0
    have hO7_c1 := hO7.cell 1; have hO7_f1 := hO7.frozen 1
    have hO7_c2 := hO7.cell 2; have hO7_f2 := hO7.frozen 2
    simp only [List.getElem?_toArray, List.getElem?_cons_zero, List.getElem?_cons_succ] at hO7_c0 hO7_c1 hO7_c2
    clear hbx
    go_wp2_with fail
    refine (itick_all ea cr (some ⟨g4, 0, none⟩) xs.length xs.length xs _ m4.seq hn40).mono ?_
    rintro x w5 ⟨A5, c5, g5, cs5, B5, d5, f5, ds5, rfl, my5, mz5, hne5, hb5⟩
    replace my5 := my5.le_ (N' := w4.heap.size + 1) (by simp)
    replace mz5 := mz5.le_ (N' := w4.heap.size + 1) (by simp)
    replace hP := hP.below hb5 (by first | omega | exact hP.lt | (simp; done) | (simp; omega))
    (try clear hP_c0); (try clear hP_f0)
    (try clear hP_c1); (try clear hP_f1)
    (try clear hP_c2); (try clear hP_f2)
    (try clear hP_lt)
    have hP_lt := hP.lt; (try simp only [World.size_alloc] at hP_lt)
    have hP_c0 := hP.cell 0; have hP_f0 := hP.frozen 0
    have hP_c1 := hP.cell 1; have hP_f1 := hP.frozen 1
    have hP_c2 := hP.cell 2; have hP_f2 := hP.frozen 2
    simp only [List.getElem?_toArray, List.getElem?_cons_zero, List.getElem?_cons_succ] at hP_c0 hP_c1 hP_c2
    replace hO4 := hO4.below hb5 (by first | omega | exact hO4.lt | (simp; done) | (simp; omega))
    (try clear hO4_c0); (try clear hO4_f0)
    (try clear hO4_c1); (try clear hO4_f1)
    (try clear hO4_c2); (try clear hO4_f2)
    (try clear hO4_lt)
    have hO4_lt := hO4.lt; (try simp only [World.size_alloc] at hO4_lt)
    have hO4_c0 := hO4.cell 0; have hO4_f0 := hO4.frozen 0
    have hO4_c1 := hO4.cell 1; have hO4_f1 := hO4.frozen 1
    have hO4_c2 := hO4.cell 2; have hO4_f2 := hO4.frozen 2
    simp only [List.getElem?_toArray, List.getElem?_cons_zero, List.getElem?_cons_succ] at hO4_c0 hO4_c1 hO4_c2
    replace hO7 := hO7.below hb5 (by first | omega | exact hO7.lt | (simp; done) | (simp; omega))
    (try clear hO7_c0); (try clear hO7_f0)
    (try clear hO7_c1); (try clear hO7_f1)
    (try clear hO7_c2); (try clear hO7_f2)
    (try clear hO7_lt)
    have hO7_lt := hO7.lt; (try simp only [World.size_alloc] at hO7_lt)
    have hO7_c0 := hO7.cell 0; have hO7_f0 := hO7.frozen 0
    have hO7_c1 := hO7.cell 1; have hO7_f1 := hO7.frozen 1
    have hO7_c2 := hO7.cell 2; have hO7_f2 := hO7.frozen 2
    simp only [List.getElem?_toArray, List.getElem?_cons_zero, List.getElem?_cons_succ] at hO7_c0 hO7_c1 hO7_c2
    replace hX := hX.below (hb5.mono hswx)
    replace my3 := my3.below_ hb5
    replace mz3 := mz3.below_ hb5
    replace m4 := m4.below_ hb5
    have hB5 : Below w.heap.size w w5 := hBx.trans (hb5.mono hswx)
    have hsw5 := hB5.size
    have hs45 : w4.heap.size + 1 ≤ w5.heap.size := by have := hb5.size; simpa using this
    clear hb5 hBx hswx
    have ly5 : 0 < (tY ea cr xs).length → g5 < w5.heap.size := fun hp => (my5.row hp).2.2.1
    have lz5 : 0 < (tZ ea cr xs).length → f5 < w5.heap.size := fun hp => (mz5.row hp).2.2.1
    have ny5 : 0 < (tY ea cr xs).length → w4.heap.size + 1 ≤ g5 := fun hp => (my5.row hp).2.1
    have nz5 : 0 < (tZ ea cr xs).length → w4.heap.size + 1 ≤ f5 := fun hp => (mz5.row hp).2.1
    have ay5 : 0 < (tY ea cr xs).length → A5 = some ⟨g5, 0, none⟩ := fun hp => (my5.row hp).1
    have az5 : 0 < (tZ ea cr xs).length → B5 = some ⟨f5, 0, none⟩ := fun hp => (mz5.row hp).1
    have HF := Lib.hid (And.intro ly3 (And.intro lz3 (And.intro l4 (And.intro n4 (And.intro ly5 (And.intro lz5 (And.intro ny5 (And.intro nz5 (And.intro ay5 (And.intro az5 hne5))))))))))
    clear ly3 lz3 l4 n4 ly5 lz5 ny5 nz5 ay5 az5 hne5
    have hbx : Below w5.heap.size w5 (w5.alloc (.cells #[.int .i64 (tE ea cr xs), .int .i64 (tC ea cr xs), .slice A5 (tY ea cr xs).length c5] 25)) := (by repeat (first | exact Below.refl _ _ | assumption | refine Below.setCell ?_ (by first | omega | (simp; done) | (simp; omega)) _ | refine Below.alloc ?_ (by first | omega | (simp; done) | (simp; omega)) _ | refine Below.drew ?_ | refine Below.drewN' ?_ _ | refine Below.trans ?_ (Below.mono (by assumption) (by first | omega | (simp; done) | (simp; omega)))))
    have hO8 := Bk.new w5 25 #[.int .i64 (tE ea cr xs), .int .i64 (tC ea cr xs), .slice A5 (tY ea cr xs).length c5]
    replace hP := hP.below hbx hP.lt
    replace hO4 := hO4.below hbx hO4.lt
    replace hO7 := hO7.below hbx hO7.lt
    replace hX := hX.below (hbx.mono hsw5)
    replace my3 := my3.below_ hbx
    replace mz3 := mz3.below_ hbx
    replace m4 := m4.below_ hbx
    replace my5 := my5.below_ hbx
    replace mz5 := mz5.below_ hbx
    have hBx := hB5.trans (hbx.mono hsw5)
    have hswx := hBx.size
    (try clear hP_c0); (try clear hP_f0)
    (try clear hP_c1); (try clear hP_f1)
    (try clear hP_c2); (try clear hP_f2)
    (try clear hP_lt)
    have hP_lt := hP.lt; (try simp only [World.size_alloc] at hP_lt)
    have hP_c0 := hP.cell 0; have hP_f0 := hP.frozen 0
    have hP_c1 := hP.cell 1; have hP_f1 := hP.frozen 1
    have hP_c2 := hP.cell 2; have hP_f2 := hP.frozen 2
    simp only [List.getElem?_toArray, List.getElem?_cons_zero, List.getElem?_cons_succ] at hP_c0 hP_c1 hP_c2
    (try clear hO4_c0); (try clear hO4_f0)
    (try clear hO4_c1); (try clear hO4_f1)
    (try clear hO4_c2); (try clear hO4_f2)
    (try clear hO4_lt)
    have hO4_lt := hO4.lt; (try simp only [World.size_alloc] at hO4_lt)
    have hO4_c0 := hO4.cell 0; have hO4_f0 := hO4.frozen 0
    have hO4_c1 := hO4.cell 1; have hO4_f1 := hO4.frozen 1
    have hO4_c2 := hO4.cell 2; have hO4_f2 := hO4.frozen 2
    simp only [List.getElem?_toArray, List.getElem?_cons_zero, List.getElem?_cons_succ] at hO4_c0 hO4_c1 hO4_c2
    (try clear hO7_c0); (try clear hO7_f0)
    (try clear hO7_c1); (try clear hO7_f1)
    (try clear hO7_c2); (try clear hO7_f2)
    (try clear hO7_lt)
    have hO7_lt := hO7.lt; (try simp only [World.size_alloc] at hO7_lt)
    have hO7_c0 := hO7.cell 0; have hO7_f0 := hO7.frozen 0
    have hO7_c1 := hO7.cell 1; have hO7_f1 := hO7.frozen 1
    have hO7_c2 := hO7.cell 2; have hO7_f2 := hO7.frozen 2
    simp only [List.getElem?_toArray, List.getElem?_cons_zero, List.getElem?_cons_succ] at hO7_c0 hO7_c1 hO7_c2
    (try clear hO8_c0); (try clear hO8_f0)
    (try clear hO8_c1); (try clear hO8_f1)
    (try clear hO8_c2); (try clear hO8_f2)
    (try clear hO8_lt)
    have hO8_lt := hO8.lt; (try simp only [World.size_alloc] at hO8_lt)
    have hO8_c0 := hO8.cell 0; have hO8_f0 := hO8.frozen 0
    have hO8_c1 := hO8.cell 1; have hO8_f1 := hO8.frozen 1
    have hO8_c2 := hO8.cell 2; have hO8_f2 := hO8.frozen 2
    simp only [List.getElem?_toArray, List.getElem?_cons_zero, List.getElem?_cons_succ] at hO8_c0 hO8_c1 hO8_c2
    clear hbx
    go_wp2_with fail
    refine (eqP_MR _ _ c5 c3 my5 my3 hyl2).mono ?_
    rintro x w6 ⟨rfl, hb6⟩
    replace hP := hP.below hb6 (by first | omega | exact hP.lt | (simp; done) | (simp; omega))
    (try clear hP_c0); (try clear hP_f0)
    (try clear hP_c1); (try clear hP_f1)
    (try clear hP_c2); (try clear hP_f2)
    (try clear hP_lt)
    have hP_lt := hP.lt; (try simp only [World.size_alloc] at hP_lt)
    have hP_c0 := hP.cell 0; have hP_f0 := hP.frozen 0
    have hP_c1 := hP.cell 1; have hP_f1 := hP.frozen 1
    have hP_c2 := hP.cell 2; have hP_f2 := hP.frozen 2
    simp only [List.getElem?_toArray, List.getElem?_cons_zero, List.getElem?_cons_succ] at hP_c0 hP_c1 hP_c2
    replace hO4 := hO4.below hb6 (by first | omega | exact hO4.lt | (simp; done) | (simp; omega))
    (try clear hO4_c0); (try clear hO4_f0)
    (try clear hO4_c1); (try clear hO4_f1)
    (try clear hO4_c2); (try clear hO4_f2)
    (try clear hO4_lt)
    have hO4_lt := hO4.lt; (try simp only [World.size_alloc] at hO4_lt)
    have hO4_c0 := hO4.cell 0; have hO4_f0 := hO4.frozen 0
    have hO4_c1 := hO4.cell 1; have hO4_f1 := hO4.frozen 1
    have hO4_c2 := hO4.cell 2; have hO4_f2 := hO4.frozen 2
    simp only [List.getElem?_toArray, List.getElem?_cons_zero, List.getElem?_cons_succ] at hO4_c0 hO4_c1 hO4_c2
    replace hO7 := hO7.below hb6 (by first | omega | exact hO7.lt | (simp; done) | (simp; omega))
    (try clear hO7_c0); (try clear hO7_f0)
    (try clear hO7_c1); (try clear hO7_f1)
    (try clear hO7_c2); (try clear hO7_f2)
    (try clear hO7_lt)
    have hO7_lt := hO7.lt; (try simp only [World.size_alloc] at hO7_lt)
    have hO7_c0 := hO7.cell 0; have hO7_f0 := hO7.frozen 0
    have hO7_c1 := hO7.cell 1; have hO7_f1 := hO7.frozen 1
    have hO7_c2 := hO7.cell 2; have hO7_f2 := hO7.frozen 2
    simp only [List.getElem?_toArray, List.getElem?_cons_zero, List.getElem?_cons_succ] at hO7_c0 hO7_c1 hO7_c2
    replace hO8 := hO8.below hb6 (by first | omega | exact hO8.lt | (simp; done) | (simp; omega))
    (try clear hO8_c0); (try clear hO8_f0)
    (try clear hO8_c1); (try clear hO8_f1)
    (try clear hO8_c2); (try clear hO8_f2)
    (try clear hO8_lt)
    have hO8_lt := hO8.lt; (try simp only [World.size_alloc] at hO8_lt)
    have hO8_c0 := hO8.cell 0; have hO8_f0 := hO8.frozen 0
    have hO8_c1 := hO8.cell 1; have hO8_f1 := hO8.frozen 1
    have hO8_c2 := hO8.cell 2; have hO8_f2 := hO8.frozen 2
    simp only [List.getElem?_toArray, List.getElem?_cons_zero, List.getElem?_cons_succ] at hO8_c0 hO8_c1 hO8_c2
    replace hX := hX.below (hb6.mono hswx)
    replace my3 := my3.below_ hb6
    replace mz3 := mz3.below_ hb6
    replace m4 := m4.below_ hb6
    replace my5 := my5.below_ hb6
    replace mz5 := mz5.below_ hb6
    have hB6 : Below w.heap.size w w6 := hBx.trans (hb6.mono hswx)
    have hsw6 := hB6.size
    have hs56 : w5.heap.size + 1 ≤ w6.heap.size := by have := hb6.size; simpa using this
    clear hb6 hBx hswx
    go_wp2_with fail
    refine (eqW_MR d5 d3 mz5 mz3 hzl2).mono ?_
    rintro x w7 ⟨rfl, hb7⟩
    replace hP := hP.below hb7 (by first | omega | exact hP.lt | (simp; done) | (simp; omega))
    (try clear hP_c0); (try clear hP_f0)
    (try clear hP_c1); (try clear hP_f1)
    (try clear hP_c2); (try clear hP_f2)
    (try clear hP_lt)
    have hP_lt := hP.lt; (try simp only [World.size_alloc] at hP_lt)
    have hP_c0 := hP.cell 0; have hP_f0 := hP.frozen 0
    have hP_c1 := hP.cell 1; have hP_f1 := hP.frozen 1
    have hP_c2 := hP.cell 2; have hP_f2 := hP.frozen 2
    simp only [List.getElem?_toArray, List.getElem?_cons_zero, List.getElem?_cons_succ] at hP_c0 hP_c1 hP_c2
    replace hO4 := hO4.below hb7 (by first | omega | exact hO4.lt | (simp; done) | (simp; omega))
    (try clear hO4_c0); (try clear hO4_f0)
    (try clear hO4_c1); (try clear hO4_f1)
    (try clear hO4_c2); (try clear hO4_f2)
    (try clear hO4_lt)
    have hO4_lt := hO4.lt; (try simp only [World.size_alloc] at hO4_lt)
    have hO4_c0 := hO4.cell 0; have hO4_f0 := hO4.frozen 0
    have hO4_c1 := hO4.cell 1; have hO4_f1 := hO4.frozen 1
    have hO4_c2 := hO4.cell 2; have hO4_f2 := hO4.frozen 2
    simp only [List.getElem?_toArray, List.getElem?_cons_zero, List.getElem?_cons_succ] at hO4_c0 hO4_c1 hO4_c2
    replace hO7 := hO7.below hb7 (by first | omega | exact hO7.lt | (simp; done) | (simp; omega))
    (try clear hO7_c0); (try clear hO7_f0)
    (try clear hO7_c1); (try clear hO7_f1)
    (try clear hO7_c2); (try clear hO7_f2)
    (try clear hO7_lt)
    have hO7_lt := hO7.lt; (try simp only [World.size_alloc] at hO7_lt)
    have hO7_c0 := hO7.cell 0; have hO7_f0 := hO7.frozen 0
    have hO7_c1 := hO7.cell 1; have hO7_f1 := hO7.frozen 1
    have hO7_c2 := hO7.cell 2; have hO7_f2 := hO7.frozen 2
    simp only [List.getElem?_toArray, List.getElem?_cons_zero, List.getElem?_cons_succ] at hO7_c0 hO7_c1 hO7_c2
    replace hO8 := hO8.below hb7 (by first | omega | exact hO8.lt | (simp; done) | (simp; omega))
    (try clear hO8_c0); (try clear hO8_f0)
    (try clear hO8_c1); (try clear hO8_f1)
    (try clear hO8_c2); (try clear hO8_f2)
    (try clear hO8_lt)
    have hO8_lt := hO8.lt; (try simp only [World.size_alloc] at hO8_lt)
    have hO8_c0 := hO8.cell 0; have hO8_f0 := hO8.frozen 0
    have hO8_c1 := hO8.cell 1; have hO8_f1 := hO8.frozen 1
    have hO8_c2 := hO8.cell 2; have hO8_f2 := hO8.frozen 2
    simp only [List.getElem?_toArray, List.getElem?_cons_zero, List.getElem?_cons_succ] at hO8_c0 hO8_c1 hO8_c2
    replace hX := hX.below (hb7.mono hsw6)
    replace my3 := my3.below_ hb7
    replace mz3 := mz3.below_ hb7
    replace m4 := m4.below_ hb7
    replace my5 := my5.below_ hb7
    replace mz5 := mz5.below_ hb7
    have hB7 : Below w.heap.size w w7 := hB6.trans (hb7.mono hsw6)
    have hsw7 := hB7.size
    have hs67 := hb7.size
    clear hb7
    go_wp2_with fail
    have hswd : w.heap.size ≤ w7.drew.heap.size := hsw7
    have HX := Lib.hid (show Wts w7.drew w.heap.size A xs.length xs from hX)
    have HM4 := Lib.hid (show MR w7.drew (w3.heap.size + 1) (some ⟨g4, 0, none⟩) g4 xs (xs.flatMap Wt.c) from ⟨m4.seq, m4.row⟩)
    go_region_held3 (fun w' => w'.cell? ⟨w.heap.size, 0, none⟩ = some (.int .i64 ea) ∧ w'.cell? ⟨w.heap.size, 1, none⟩ = some (.int .i64 cr) ∧ w'.cell? ⟨w.heap.size, 2, none⟩ = some (.slice A xs.length c) ∧ w'.cell? ⟨w4.heap.size, 0, none⟩ = some (.int .i64 ea) ∧ w'.cell? ⟨w4.heap.size, 1, none⟩ = some (.int .i64 cr) ∧ w'.cell? ⟨w4.heap.size, 2, none⟩ = some (.slice (some ⟨g4, 0, none⟩) xs.length xs.length)) (first | with_reducible exact ⟨hP8_0, hP8_1, hP8_2, hO78_0, hO78_1, hO78_2⟩ | with_reducible exact ⟨hP89_0, hP89_1, hP89_2, hO789_0, hO789_1, hO789_2⟩ | exact ⟨hP_c0, hP_c1, hP_c2, hO7_c0, hO7_c1, hO7_c2⟩)
      (first
        | (go_at_call 26; (with_reducible refine (toP_MR ea cr A xs.length c w.heap.size xs w7.drew HX.out hswd hn21).mono ?_); rintro e w8 ⟨g8, rfl, m8, hb8⟩; have hP8 := hP.drew.below hb8 hP.lt; have hP8_0 := hP8.cell 0; have hP8_1 := hP8.cell 1; have hP8_2 := hP8.cell 2; simp only [List.getElem?_toArray, List.getElem?_cons_zero, List.getElem?_cons_succ] at hP8_0 hP8_1 hP8_2; have hO78 := hO7.drew.below hb8 hO7.lt; have hO78_0 := hO78.cell 0; have hO78_1 := hO78.cell 1; have hO78_2 := hO78.cell 2; simp only [List.getElem?_toArray, List.getElem?_cons_zero, List.getElem?_cons_succ] at hO78_0 hO78_1 hO78_2; have m48 := HM4.out.below_ hb8)
        | (go_at_call 28; (with_reducible refine (eqP_MR ea cr xs.length xs.length m48 m8 hn21).mono ?_); rintro e w9 ⟨rfl, hb89⟩; have hP89 := hP8.below hb89 hP8.lt; have hP89_0 := hP89.cell 0; have hP89_1 := hP89.cell 1; have hP89_2 := hP89.cell 2; simp only [List.getElem?_toArray, List.getElem?_cons_zero, List.getElem?_cons_succ] at hP89_0 hP89_1 hP89_2; have hO789 := hO78.below hb89 hO78.lt; have hO789_0 := hO789.cell 0; have hO789_1 := hO789.cell 1; have hO789_2 := hO789.cell 2; simp only [List.getElem?_toArray, List.getElem?_cons_zero, List.getElem?_cons_succ] at hO789_0 hO789_1 hO789_2))
    clear hP8_0 hP8_1 hP8_2 hO78_0 hO78_1 hO78_2 hP89_0 hP89_1 hP89_2 hO789_0 hO789_1 hO789_2
    have hb9 : Below w7.heap.size w7 w9 := (Below.drew (Below.refl _ _)).trans (hb8.trans (hb89.mono hb8.size))
    clear hb8 hb89 HX HM4 hP8 hO78 hP89 hO789 m48 m8
    replace hP := hP.below hb9 (by first | omega | exact hP.lt | (simp; done) | (simp; omega))
    (try clear hP_c0); (try clear hP_f0)
    (try clear hP_c1); (try clear hP_f1)
    (try clear hP_c2); (try clear hP_f2)
    (try clear hP_lt)
    have hP_lt := hP.lt; (try simp only [World.size_alloc] at hP_lt)
    have hP_c0 := hP.cell 0; have hP_f0 := hP.frozen 0
    have hP_c1 := hP.cell 1; have hP_f1 := hP.frozen 1
    have hP_c2 := hP.cell 2; have hP_f2 := hP.frozen 2
    simp only [List.getElem?_toArray, List.getElem?_cons_zero, List.getElem?_cons_succ] at hP_c0 hP_c1 hP_c2
    replace hO4 := hO4.below hb9 (by first | omega | exact hO4.lt | (simp; done) | (simp; omega))
    (try clear hO4_c0); (try clear hO4_f0)
    (try clear hO4_c1); (try clear hO4_f1)
    (try clear hO4_c2); (try clear hO4_f2)
    (try clear hO4_lt)
    have hO4_lt := hO4.lt; (try simp only [World.size_alloc] at hO4_lt)
    have hO4_c0 := hO4.cell 0; have hO4_f0 := hO4.frozen 0
    have hO4_c1 := hO4.cell 1; have hO4_f1 := hO4.frozen 1
    have hO4_c2 := hO4.cell 2; have hO4_f2 := hO4.frozen 2
    simp only [List.getElem?_toArray, List.getElem?_cons_zero, List.getElem?_cons_succ] at hO4_c0 hO4_c1 hO4_c2
    replace hO7 := hO7.below hb9 (by first | omega | exact hO7.lt | (simp; done) | (simp; omega))
    (try clear hO7_c0); (try clear hO7_f0)
    (try clear hO7_c1); (try clear hO7_f1)
    (try clear hO7_c2); (try clear hO7_f2)
    (try clear hO7_lt)
    have hO7_lt := hO7.lt; (try simp only [World.size_alloc] at hO7_lt)
    have hO7_c0 := hO7.cell 0; have hO7_f0 := hO7.frozen 0
    have hO7_c1 := hO7.cell 1; have hO7_f1 := hO7.frozen 1
    have hO7_c2 := hO7.cell 2; have hO7_f2 := hO7.frozen 2
    simp only [List.getElem?_toArray, List.getElem?_cons_zero, List.getElem?_cons_succ] at hO7_c0 hO7_c1 hO7_c2
    replace hO8 := hO8.below hb9 (by first | omega | exact hO8.lt | (simp; done) | (simp; omega))
    (try clear hO8_c0); (try clear hO8_f0)
    (try clear hO8_c1); (try clear hO8_f1)
    (try clear hO8_c2); (try clear hO8_f2)
    (try clear hO8_lt)
    have hO8_lt := hO8.lt; (try simp only [World.size_alloc] at hO8_lt)
    have hO8_c0 := hO8.cell 0; have hO8_f0 := hO8.frozen 0
    have hO8_c1 := hO8.cell 1; have hO8_f1 := hO8.frozen 1
    have hO8_c2 := hO8.cell 2; have hO8_f2 := hO8.frozen 2
    simp only [List.getElem?_toArray, List.getElem?_cons_zero, List.getElem?_cons_succ] at hO8_c0 hO8_c1 hO8_c2
    replace hX := hX.below (hb9.mono hsw7)
    replace my3 := my3.below_ hb9
    replace mz3 := mz3.below_ hb9
    replace m4 := m4.below_ hb9
    replace my5 := my5.below_ hb9
    replace mz5 := mz5.below_ hb9
    have hB9 : Below w.heap.size w w9 := hB7.trans (hb9.mono hsw7)
    have hsw9 := hB9.size
    have hs79 := hb9.size
    clear hb9
    go_wp2_with fail
    refine (markP_MR ea cr xs.length 1 m4 hn21 (by omega) (by omega)).mono ?_
    rintro x w10 ⟨rfl, hk4, hbm⟩
    obtain ⟨ly3, lz3, l4, n4, ly5, lz5, ny5, nz5, ay5, az5, hne5⟩ := HF.out
    have C4 : 0 < xs.length → w3.heap.size + 1 ≤ g4 ∧ g4 < w4.heap.size := fun hp => ⟨n4 hp, l4 hp⟩
    have CY : 0 < (tY ea cr xs).length → w4.heap.size + 1 ≤ g5 ∧ g5 < w5.heap.size := fun hp => ⟨ny5 hp, ly5 hp⟩
    have CZ : 0 < (tZ ea cr xs).length → w4.heap.size + 1 ≤ f5 ∧ f5 < w5.heap.size := fun hp => ⟨nz5 hp, lz5 hp⟩
    replace hP := hP.but hbm (by rintro ⟨he, hp⟩; have h1 := (C4 hp); omega)
    (try clear hP_c0); (try clear hP_f0)
    (try clear hP_c1); (try clear hP_f1)
    (try clear hP_c2); (try clear hP_f2)
    (try clear hP_lt)
    have hP_lt := hP.lt; (try simp only [World.size_alloc] at hP_lt)
    have hP_c0 := hP.cell 0; have hP_f0 := hP.frozen 0
    have hP_c1 := hP.cell 1; have hP_f1 := hP.frozen 1
    have hP_c2 := hP.cell 2; have hP_f2 := hP.frozen 2
    simp only [List.getElem?_toArray, List.getElem?_cons_zero, List.getElem?_cons_succ] at hP_c0 hP_c1 hP_c2
    replace hO4 := hO4.but hbm (by rintro ⟨he, hp⟩; have h1 := (C4 hp); omega)
    (try clear hO4_c0); (try clear hO4_f0)
    (try clear hO4_c1); (try clear hO4_f1)
    (try clear hO4_c2); (try clear hO4_f2)
    (try clear hO4_lt)
    have hO4_lt := hO4.lt; (try simp only [World.size_alloc] at hO4_lt)
    have hO4_c0 := hO4.cell 0; have hO4_f0 := hO4.frozen 0
    have hO4_c1 := hO4.cell 1; have hO4_f1 := hO4.frozen 1
    have hO4_c2 := hO4.cell 2; have hO4_f2 := hO4.frozen 2
    simp only [List.getElem?_toArray, List.getElem?_cons_zero, List.getElem?_cons_succ] at hO4_c0 hO4_c1 hO4_c2
    replace hO7 := hO7.but hbm (by rintro ⟨he, hp⟩; have h1 := (C4 hp); omega)
    (try clear hO7_c0); (try clear hO7_f0)
    (try clear hO7_c1); (try clear hO7_f1)
    (try clear hO7_c2); (try clear hO7_f2)
    (try clear hO7_lt)
    have hO7_lt := hO7.lt; (try simp only [World.size_alloc] at hO7_lt)
    have hO7_c0 := hO7.cell 0; have hO7_f0 := hO7.frozen 0
    have hO7_c1 := hO7.cell 1; have hO7_f1 := hO7.frozen 1
    have hO7_c2 := hO7.cell 2; have hO7_f2 := hO7.frozen 2
    simp only [List.getElem?_toArray, List.getElem?_cons_zero, List.getElem?_cons_succ] at hO7_c0 hO7_c1 hO7_c2
    replace hO8 := hO8.but hbm (by rintro ⟨he, hp⟩; have h1 := (C4 hp); omega)
    (try clear hO8_c0); (try clear hO8_f0)
    (try clear hO8_c1); (try clear hO8_f1)
    (try clear hO8_c2); (try clear hO8_f2)
    (try clear hO8_lt)
    have hO8_lt := hO8.lt; (try simp only [World.size_alloc] at hO8_lt)
    have hO8_c0 := hO8.cell 0; have hO8_f0 := hO8.frozen 0
    have hO8_c1 := hO8.cell 1; have hO8_f1 := hO8.frozen 1
    have hO8_c2 := hO8.cell 2; have hO8_f2 := hO8.frozen 2
    simp only [List.getElem?_toArray, List.getElem?_cons_zero, List.getElem?_cons_succ] at hO8_c0 hO8_c1 hO8_c2
    replace hX := hX.but_lt hbm (by rintro k ⟨he, hp⟩; have h1 := (C4 hp); omega)
    replace my3 := my3.but_ hbm (by intro hq; rintro ⟨he, hp⟩; have h1 := (C4 hp); have h2 := ly3 hq; omega)
    replace mz3 := mz3.but_ hbm (by intro hq; rintro ⟨he, hp⟩; have h1 := (C4 hp); have h2 := lz3 hq; omega)
    replace my5 := my5.but_ hbm (by intro hq; rintro ⟨he, hp⟩; have h1 := (C4 hp); have h2 := CY hq; omega)
    replace mz5 := mz5.but_ hbm (by intro hq; rintro ⟨he, hp⟩; have h1 := (C4 hp); have h2 := CZ hq; omega)
    have hB10 : Below w.heap.size w w10 := hB9.trans (hbm.below (by rintro k ⟨he, hp⟩; have h1 := (C4 hp); omega) hsw9)
    have hsw10 := hB10.size
    have hs910 := hbm.size
    clear hbm m4 hk4
    have HC := Lib.hid (And.intro C4 (And.intro CY (And.intro CZ (And.intro ly3 (And.intro lz3 (And.intro ay5 (And.intro az5 hne5)))))))
    clear C4 CY CZ ly3 lz3 l4 n4 ly5 lz5 ny5 nz5 ay5 az5 hne5
    have q1 : decide ((1 : Int) + (xs.length : Int) * 3 < 0) = false := by simp; omega
    have q2 : decide ((1 : Int) + ((tY ea cr xs).length : Int) * 3 < 0) = false := by simp; omega
    have q3 : decide ((1 : Int) + ((tY ea cr xs).length : Int) * 3 + ((tZ ea cr xs).length : Int) * 3 < 0) = false := by simp; omega
    go_wp2_with fail
    refine (eqP_MR _ _ c5 c3 my5 my3 hyl2).mono ?_
    rintro x w11 ⟨rfl, hb11⟩
    replace hP := hP.below hb11 (by first | omega | exact hP.lt | (simp; done) | (simp; omega))
    (try clear hP_c0); (try clear hP_f0)
    (try clear hP_c1); (try clear hP_f1)
    (try clear hP_c2); (try clear hP_f2)
    (try clear hP_lt)
    have hP_lt := hP.lt; (try simp only [World.size_alloc] at hP_lt)
    have hP_c0 := hP.cell 0; have hP_f0 := hP.frozen 0
    have hP_c1 := hP.cell 1; have hP_f1 := hP.frozen 1
    have hP_c2 := hP.cell 2; have hP_f2 := hP.frozen 2
    simp only [List.getElem?_toArray, List.getElem?_cons_zero, List.getElem?_cons_succ] at hP_c0 hP_c1 hP_c2
    replace hO4 := hO4.below hb11 (by first | omega | exact hO4.lt | (simp; done) | (simp; omega))
    (try clear hO4_c0); (try clear hO4_f0)
    (try clear hO4_c1); (try clear hO4_f1)
    (try clear hO4_c2); (try clear hO4_f2)
    (try clear hO4_lt)
    have hO4_lt := hO4.lt; (try simp only [World.size_alloc] at hO4_lt)
    have hO4_c0 := hO4.cell 0; have hO4_f0 := hO4.frozen 0
    have hO4_c1 := hO4.cell 1; have hO4_f1 := hO4.frozen 1
    have hO4_c2 := hO4.cell 2; have hO4_f2 := hO4.frozen 2
    simp only [List.getElem?_toArray, List.getElem?_cons_zero, List.getElem?_cons_succ] at hO4_c0 hO4_c1 hO4_c2
    replace hO7 := hO7.below hb11 (by first | omega | exact hO7.lt | (simp; done) | (simp; omega))
    (try clear hO7_c0); (try clear hO7_f0)
    (try clear hO7_c1); (try clear hO7_f1)
    (try clear hO7_c2); (try clear hO7_f2)
    (try clear hO7_lt)
    have hO7_lt := hO7.lt; (try simp only [World.size_alloc] at hO7_lt)
    have hO7_c0 := hO7.cell 0; have hO7_f0 := hO7.frozen 0
    have hO7_c1 := hO7.cell 1; have hO7_f1 := hO7.frozen 1
    have hO7_c2 := hO7.cell 2; have hO7_f2 := hO7.frozen 2
    simp only [List.getElem?_toArray, List.getElem?_cons_zero, List.getElem?_cons_succ] at hO7_c0 hO7_c1 hO7_c2
    replace hO8 := hO8.below hb11 (by first | omega | exact hO8.lt | (simp; done) | (simp; omega))
    (try clear hO8_c0); (try clear hO8_f0)
    (try clear hO8_c1); (try clear hO8_f1)
    (try clear hO8_c2); (try clear hO8_f2)
    (try clear hO8_lt)
    have hO8_lt := hO8.lt; (try simp only [World.size_alloc] at hO8_lt)
    have hO8_c0 := hO8.cell 0; have hO8_f0 := hO8.frozen 0
    have hO8_c1 := hO8.cell 1; have hO8_f1 := hO8.frozen 1
    have hO8_c2 := hO8.cell 2; have hO8_f2 := hO8.frozen 2
    simp only [List.getElem?_toArray, List.getElem?_cons_zero, List.getElem?_cons_succ] at hO8_c0 hO8_c1 hO8_c2
    replace hX := hX.below (hb11.mono hsw10)
    replace my3 := my3.below_ hb11
    replace mz3 := mz3.below_ hb11
    replace my5 := my5.below_ hb11
    replace mz5 := mz5.below_ hb11
    have hB11 : Below w.heap.size w w11 := hB10.trans (hb11.mono hsw10)
    have hsw11 := hB11.size
    clear hb11
    go_wp2_with fail
    refine (eqW_MR d5 d3 mz5 mz3 hzl2).mono ?_
    rintro x w12 ⟨rfl, hb12⟩
    replace hP := hP.below hb12 (by first | omega | exact hP.lt | (simp; done) | (simp; omega))
    (try clear hP_c0); (try clear hP_f0)
    (try clear hP_c1); (try clear hP_f1)
    (try clear hP_c2); (try clear hP_f2)
    (try clear hP_lt)
    have hP_lt := hP.lt; (try simp only [World.size_alloc] at hP_lt)
    have hP_c0 := hP.cell 0; have hP_f0 := hP.frozen 0
    have hP_c1 := hP.cell 1; have hP_f1 := hP.frozen 1
    have hP_c2 := hP.cell 2; have hP_f2 := hP.frozen 2
    simp only [List.getElem?_toArray, List.getElem?_cons_zero, List.getElem?_cons_succ] at hP_c0 hP_c1 hP_c2
    replace hO4 := hO4.below hb12 (by first | omega | exact hO4.lt | (simp; done) | (simp; omega))
    (try clear hO4_c0); (try clear hO4_f0)
    (try clear hO4_c1); (try clear hO4_f1)
    (try clear hO4_c2); (try clear hO4_f2)
    (try clear hO4_lt)
    have hO4_lt := hO4.lt; (try simp only [World.size_alloc] at hO4_lt)
    have hO4_c0 := hO4.cell 0; have hO4_f0 := hO4.frozen 0
    have hO4_c1 := hO4.cell 1; have hO4_f1 := hO4.frozen 1
    have hO4_c2 := hO4.cell 2; have hO4_f2 := hO4.frozen 2
    simp only [List.getElem?_toArray, List.getElem?_cons_zero, List.getElem?_cons_succ] at hO4_c0 hO4_c1 hO4_c2
    replace hO7 := hO7.below hb12 (by first | omega | exact hO7.lt | (simp; done) | (simp; omega))
    (try clear hO7_c0); (try clear hO7_f0)
    (try clear hO7_c1); (try clear hO7_f1)
    (try clear hO7_c2); (try clear hO7_f2)
    (try clear hO7_lt)
    have hO7_lt := hO7.lt; (try simp only [World.size_alloc] at hO7_lt)
    have hO7_c0 := hO7.cell 0; have hO7_f0 := hO7.frozen 0
    have hO7_c1 := hO7.cell 1; have hO7_f1 := hO7.frozen 1
    have hO7_c2 := hO7.cell 2; have hO7_f2 := hO7.frozen 2
    simp only [List.getElem?_toArray, List.getElem?_cons_zero, List.getElem?_cons_succ] at hO7_c0 hO7_c1 hO7_c2
    replace hO8 := hO8.below hb12 (by first | omega | exact hO8.lt | (simp; done) | (simp; omega))
    (try clear hO8_c0); (try clear hO8_f0)
    (try clear hO8_c1); (try clear hO8_f1)
    (try clear hO8_c2); (try clear hO8_f2)
    (try clear hO8_lt)
    have hO8_lt := hO8.lt; (try simp only [World.size_alloc] at hO8_lt)
    have hO8_c0 := hO8.cell 0; have hO8_f0 := hO8.frozen 0
    have hO8_c1 := hO8.cell 1; have hO8_f1 := hO8.frozen 1
    have hO8_c2 := hO8.cell 2; have hO8_f2 := hO8.frozen 2
    simp only [List.getElem?_toArray, List.getElem?_cons_zero, List.getElem?_cons_succ] at hO8_c0 hO8_c1 hO8_c2
    replace hX := hX.below (hb12.mono hsw11)
    replace my3 := my3.below_ hb12
    replace mz3 := mz3.below_ hb12
    replace my5 := my5.below_ hb12
    replace mz5 := mz5.below_ hb12
    have hB12 : Below w.heap.size w w12 := hB11.trans (hb12.mono hsw11)
    have hsw12 := hB12.size
    clear hb12
    go_wp2_with fail
    refine (markP_MR _ _ c5 1 my5 hyl2 (by omega) (by omega)).mono ?_
    rintro x w13 ⟨rfl, hky, hbm⟩
    obtain ⟨C4, CY, CZ, ly3, lz3, ay5, az5, hne5⟩ := HC.out
    have hs1213 := hbm.size
    replace hP := hP.but hbm (by rintro ⟨he, hp⟩; have h1 := (CY hp); omega)
    (try clear hP_c0); (try clear hP_f0)
    (try clear hP_c1); (try clear hP_f1)
    (try clear hP_c2); (try clear hP_f2)
    (try clear hP_lt)
    have hP_lt := hP.lt; (try simp only [World.size_alloc] at hP_lt)
    have hP_c0 := hP.cell 0; have hP_f0 := hP.frozen 0
    have hP_c1 := hP.cell 1; have hP_f1 := hP.frozen 1
    have hP_c2 := hP.cell 2; have hP_f2 := hP.frozen 2
    simp only [List.getElem?_toArray, List.getElem?_cons_zero, List.getElem?_cons_succ] at hP_c0 hP_c1 hP_c2
    replace hO4 := hO4.but hbm (by rintro ⟨he, hp⟩; have h1 := (CY hp); omega)
    (try clear hO4_c0); (try clear hO4_f0)
    (try clear hO4_c1); (try clear hO4_f1)
    (try clear hO4_c2); (try clear hO4_f2)
    (try clear hO4_lt)
    have hO4_lt := hO4.lt; (try simp only [World.size_alloc] at hO4_lt)
    have hO4_c0 := hO4.cell 0; have hO4_f0 := hO4.frozen 0
    have hO4_c1 := hO4.cell 1; have hO4_f1 := hO4.frozen 1
    have hO4_c2 := hO4.cell 2; have hO4_f2 := hO4.frozen 2
    simp only [List.getElem?_toArray, List.getElem?_cons_zero, List.getElem?_cons_succ] at hO4_c0 hO4_c1 hO4_c2
    replace hO7 := hO7.but hbm (by rintro ⟨he, hp⟩; have h1 := (CY hp); omega)
    (try clear hO7_c0); (try clear hO7_f0)
    (try clear hO7_c1); (try clear hO7_f1)
    (try clear hO7_c2); (try clear hO7_f2)
    (try clear hO7_lt)
    have hO7_lt := hO7.lt; (try simp only [World.size_alloc] at hO7_lt)
    have hO7_c0 := hO7.cell 0; have hO7_f0 := hO7.frozen 0
    have hO7_c1 := hO7.cell 1; have hO7_f1 := hO7.frozen 1
    have hO7_c2 := hO7.cell 2; have hO7_f2 := hO7.frozen 2
    simp only [List.getElem?_toArray, List.getElem?_cons_zero, List.getElem?_cons_succ] at hO7_c0 hO7_c1 hO7_c2
    replace hO8 := hO8.but hbm (by rintro ⟨he, hp⟩; have h1 := (CY hp); omega)
    (try clear hO8_c0); (try clear hO8_f0)
    (try clear hO8_c1); (try clear hO8_f1)
    (try clear hO8_c2); (try clear hO8_f2)
    (try clear hO8_lt)
    have hO8_lt := hO8.lt; (try simp only [World.size_alloc] at hO8_lt)
    have hO8_c0 := hO8.cell 0; have hO8_f0 := hO8.frozen 0
    have hO8_c1 := hO8.cell 1; have hO8_f1 := hO8.frozen 1
    have hO8_c2 := hO8.cell 2; have hO8_f2 := hO8.frozen 2
    simp only [List.getElem?_toArray, List.getElem?_cons_zero, List.getElem?_cons_succ] at hO8_c0 hO8_c1 hO8_c2
    replace hX := hX.but_lt hbm (by rintro k ⟨he, hp⟩; have h1 := (CY hp); omega)
    replace my3 := my3.but_ hbm (by intro hq; rintro ⟨he, hp⟩; have h1 := (CY hp); have h2 := ly3 hq; omega)
    replace mz3 := mz3.but_ hbm (by intro hq; rintro ⟨he, hp⟩; have h1 := (CY hp); have h2 := lz3 hq; omega)
    replace mz5 := mz5.but_ hbm (by intro hq; rintro ⟨he, hp⟩; have h1 := (CY hp); exact hne5 hp hq he.symm)
    have hB13 : Below w.heap.size w w13 := hB12.trans (hbm.below (by rintro k ⟨he, hp⟩; have h1 := (CY hp); omega) hsw12)
    have hsw13 := hB13.size
    clear hbm my5
    clear C4 CY CZ ly3 lz3 ay5 az5 hne5
    go_wp2_with fail
    refine (markW_MR d5 _ mz5 hzl2 (by omega) (by omega)).mono ?_
    rintro x w14 ⟨rfl, hkz, hbm⟩
    obtain ⟨C4, CY, CZ, ly3, lz3, ay5, az5, hne5⟩ := HC.out
    replace hP := hP.but hbm (by rintro ⟨he, hp⟩; have h1 := (CZ hp); omega)
    (try clear hP_c0); (try clear hP_f0)
    (try clear hP_c1); (try clear hP_f1)
    (try clear hP_c2); (try clear hP_f2)
    (try clear hP_lt)
    have hP_lt := hP.lt; (try simp only [World.size_alloc] at hP_lt)
    have hP_c0 := hP.cell 0; have hP_f0 := hP.frozen 0
    have hP_c1 := hP.cell 1; have hP_f1 := hP.frozen 1
    have hP_c2 := hP.cell 2; have hP_f2 := hP.frozen 2
    simp only [List.getElem?_toArray, List.getElem?_cons_zero, List.getElem?_cons_succ] at hP_c0 hP_c1 hP_c2
    replace hO4 := hO4.but hbm (by rintro ⟨he, hp⟩; have h1 := (CZ hp); omega)
    (try clear hO4_c0); (try clear hO4_f0)
    (try clear hO4_c1); (try clear hO4_f1)
    (try clear hO4_c2); (try clear hO4_f2)
    (try clear hO4_lt)
    have hO4_lt := hO4.lt; (try simp only [World.size_alloc] at hO4_lt)
    have hO4_c0 := hO4.cell 0; have hO4_f0 := hO4.frozen 0
    have hO4_c1 := hO4.cell 1; have hO4_f1 := hO4.frozen 1
    have hO4_c2 := hO4.cell 2; have hO4_f2 := hO4.frozen 2
    simp only [List.getElem?_toArray, List.getElem?_cons_zero, List.getElem?_cons_succ] at hO4_c0 hO4_c1 hO4_c2
    replace hO7 := hO7.but hbm (by rintro ⟨he, hp⟩; have h1 := (CZ hp); omega)
    (try clear hO7_c0); (try clear hO7_f0)
    (try clear hO7_c1); (try clear hO7_f1)
    (try clear hO7_c2); (try clear hO7_f2)
    (try clear hO7_lt)
    have hO7_lt := hO7.lt; (try simp only [World.size_alloc] at hO7_lt)
    have hO7_c0 := hO7.cell 0; have hO7_f0 := hO7.frozen 0
    have hO7_c1 := hO7.cell 1; have hO7_f1 := hO7.frozen 1
    have hO7_c2 := hO7.cell 2; have hO7_f2 := hO7.frozen 2
    simp only [List.getElem?_toArray, List.getElem?_cons_zero, List.getElem?_cons_succ] at hO7_c0 hO7_c1 hO7_c2
    replace hO8 := hO8.but hbm (by rintro ⟨he, hp⟩; have h1 := (CZ hp); omega)
    (try clear hO8_c0); (try clear hO8_f0)
    (try clear hO8_c1); (try clear hO8_f1)
    (try clear hO8_c2); (try clear hO8_f2)
    (try clear hO8_lt)
    have hO8_lt := hO8.lt; (try simp only [World.size_alloc] at hO8_lt)
    have hO8_c0 := hO8.cell 0; have hO8_f0 := hO8.frozen 0
    have hO8_c1 := hO8.cell 1; have hO8_f1 := hO8.frozen 1
    have hO8_c2 := hO8.cell 2; have hO8_f2 := hO8.frozen 2
    simp only [List.getElem?_toArray, List.getElem?_cons_zero, List.getElem?_cons_succ] at hO8_c0 hO8_c1 hO8_c2
    replace hX := hX.but_lt hbm (by rintro k ⟨he, hp⟩; have h1 := (CZ hp); omega)
    replace my3 := my3.but_ hbm (by intro hq; rintro ⟨he, hp⟩; have h1 := (CZ hp); have h2 := ly3 hq; omega)
    replace mz3 := mz3.but_ hbm (by intro hq; rintro ⟨he, hp⟩; have h1 := (CZ hp); have h2 := lz3 hq; omega)
    replace hky := hky.but_ hbm (by intro hq; rintro ⟨he, hp⟩; have h1 := (CZ hp); exact hne5 hq hp he)
    have hB14 : Below w.heap.size w w14 := hB13.trans (hbm.below (by rintro k ⟨he, hp⟩; have h1 := (CZ hp); omega) hsw13)
    have hsw14 := hB14.size
    clear hbm mz5
    have HA5 := Lib.hid ay5
    have HB5 := Lib.hid az5
    clear C4 CY CZ ly3 lz3 ay5 az5 hne5
    go_wp2_with fail
    refine (heldP_MK _ _ c5 1 hky HA5.out hyl2 (by omega) (by omega)).mono ?_
    rintro x w15 ⟨rfl, hb15⟩
    replace hP := hP.below hb15 (by first | omega | exact hP.lt | (simp; done) | (simp; omega))
    (try clear hP_c0); (try clear hP_f0)
    (try clear hP_c1); (try clear hP_f1)
    (try clear hP_c2); (try clear hP_f2)
    (try clear hP_lt)
    have hP_lt := hP.lt; (try simp only [World.size_alloc] at hP_lt)
    have hP_c0 := hP.cell 0; have hP_f0 := hP.frozen 0
    have hP_c1 := hP.cell 1; have hP_f1 := hP.frozen 1
    have hP_c2 := hP.cell 2; have hP_f2 := hP.frozen 2
    simp only [List.getElem?_toArray, List.getElem?_cons_zero, List.getElem?_cons_succ] at hP_c0 hP_c1 hP_c2
    replace hO4 := hO4.below hb15 (by first | omega | exact hO4.lt | (simp; done) | (simp; omega))
    (try clear hO4_c0); (try clear hO4_f0)
    (try clear hO4_c1); (try clear hO4_f1)
    (try clear hO4_c2); (try clear hO4_f2)
    (try clear hO4_lt)
    have hO4_lt := hO4.lt; (try simp only [World.size_alloc] at hO4_lt)
    have hO4_c0 := hO4.cell 0; have hO4_f0 := hO4.frozen 0
    have hO4_c1 := hO4.cell 1; have hO4_f1 := hO4.frozen 1
    have hO4_c2 := hO4.cell 2; have hO4_f2 := hO4.frozen 2
    simp only [List.getElem?_toArray, List.getElem?_cons_zero, List.getElem?_cons_succ] at hO4_c0 hO4_c1 hO4_c2
    replace hO7 := hO7.below hb15 (by first | omega | exact hO7.lt | (simp; done) | (simp; omega))
    (try clear hO7_c0); (try clear hO7_f0)
    (try clear hO7_c1); (try clear hO7_f1)
    (try clear hO7_c2); (try clear hO7_f2)
    (try clear hO7_lt)
    have hO7_lt := hO7.lt; (try simp only [World.size_alloc] at hO7_lt)
    have hO7_c0 := hO7.cell 0; have hO7_f0 := hO7.frozen 0
    have hO7_c1 := hO7.cell 1; have hO7_f1 := hO7.frozen 1
    have hO7_c2 := hO7.cell 2; have hO7_f2 := hO7.frozen 2
    simp only [List.getElem?_toArray, List.getElem?_cons_zero, List.getElem?_cons_succ] at hO7_c0 hO7_c1 hO7_c2
    replace hO8 := hO8.below hb15 (by first | omega | exact hO8.lt | (simp; done) | (simp; omega))
    (try clear hO8_c0); (try clear hO8_f0)
    (try clear hO8_c1); (try clear hO8_f1)
    (try clear hO8_c2); (try clear hO8_f2)
    (try clear hO8_lt)
    have hO8_lt := hO8.lt; (try simp only [World.size_alloc] at hO8_lt)
    have hO8_c0 := hO8.cell 0; have hO8_f0 := hO8.frozen 0
    have hO8_c1 := hO8.cell 1; have hO8_f1 := hO8.frozen 1
    have hO8_c2 := hO8.cell 2; have hO8_f2 := hO8.frozen 2
    simp only [List.getElem?_toArray, List.getElem?_cons_zero, List.getElem?_cons_succ] at hO8_c0 hO8_c1 hO8_c2
    replace hX := hX.below (hb15.mono hsw14)
    replace my3 := my3.below_ hb15
    replace mz3 := mz3.below_ hb15
    replace hky := hky.below_ hb15
    replace hkz := hkz.below_ hb15
    have hB15 : Below w.heap.size w w15 := hB14.trans (hb15.mono hsw14)
    have hsw15 := hB15.size
    clear hb15
    go_wp2_with fail
    refine (heldW_MK d5 _ hkz HB5.out hzl2 (by omega) (by omega)).mono ?_
    rintro x w16 ⟨rfl, hb16⟩
    replace hP := hP.below hb16 (by first | omega | exact hP.lt | (simp; done) | (simp; omega))
    (try clear hP_c0); (try clear hP_f0)
    (try clear hP_c1); (try clear hP_f1)
    (try clear hP_c2); (try clear hP_f2)
    (try clear hP_lt)
    have hP_lt := hP.lt; (try simp only [World.size_alloc] at hP_lt)
    have hP_c0 := hP.cell 0; have hP_f0 := hP.frozen 0
    have hP_c1 := hP.cell 1; have hP_f1 := hP.frozen 1
    have hP_c2 := hP.cell 2; have hP_f2 := hP.frozen 2
    simp only [List.getElem?_toArray, List.getElem?_cons_zero, List.getElem?_cons_succ] at hP_c0 hP_c1 hP_c2
    replace hO4 := hO4.below hb16 (by first | omega | exact hO4.lt | (simp; done) | (simp; omega))
    (try clear hO4_c0); (try clear hO4_f0)
    (try clear hO4_c1); (try clear hO4_f1)
    (try clear hO4_c2); (try clear hO4_f2)
    (try clear hO4_lt)
    have hO4_lt := hO4.lt; (try simp only [World.size_alloc] at hO4_lt)
    have hO4_c0 := hO4.cell 0; have hO4_f0 := hO4.frozen 0
    have hO4_c1 := hO4.cell 1; have hO4_f1 := hO4.frozen 1
    have hO4_c2 := hO4.cell 2; have hO4_f2 := hO4.frozen 2
    simp only [List.getElem?_toArray, List.getElem?_cons_zero, List.getElem?_cons_succ] at hO4_c0 hO4_c1 hO4_c2
    replace hO7 := hO7.below hb16 (by first | omega | exact hO7.lt | (simp; done) | (simp; omega))
    (try clear hO7_c0); (try clear hO7_f0)
    (try clear hO7_c1); (try clear hO7_f1)
    (try clear hO7_c2); (try clear hO7_f2)
    (try clear hO7_lt)
    have hO7_lt := hO7.lt; (try simp only [World.size_alloc] at hO7_lt)
    have hO7_c0 := hO7.cell 0; have hO7_f0 := hO7.frozen 0
    have hO7_c1 := hO7.cell 1; have hO7_f1 := hO7.frozen 1
    have hO7_c2 := hO7.cell 2; have hO7_f2 := hO7.frozen 2
    simp only [List.getElem?_toArray, List.getElem?_cons_zero, List.getElem?_cons_succ] at hO7_c0 hO7_c1 hO7_c2
    replace hO8 := hO8.below hb16 (by first | omega | exact hO8.lt | (simp; done) | (simp; omega))
    (try clear hO8_c0); (try clear hO8_f0)
    (try clear hO8_c1); (try clear hO8_f1)
    (try clear hO8_c2); (try clear hO8_f2)
    (try clear hO8_lt)
    have hO8_lt := hO8.lt; (try simp only [World.size_alloc] at hO8_lt)
    have hO8_c0 := hO8.cell 0; have hO8_f0 := hO8.frozen 0
    have hO8_c1 := hO8.cell 1; have hO8_f1 := hO8.frozen 1
    have hO8_c2 := hO8.cell 2; have hO8_f2 := hO8.frozen 2
    simp only [List.getElem?_toArray, List.getElem?_cons_zero, List.getElem?_cons_succ] at hO8_c0 hO8_c1 hO8_c2
    replace hX := hX.below (hb16.mono hsw15)
    replace my3 := my3.below_ hb16
    replace mz3 := mz3.below_ hb16
    replace hky := hky.below_ hb16
    replace hkz := hkz.below_ hb16
    have hB16 : Below w.heap.size w w16 := hB15.trans (hb16.mono hsw15)
    have hsw16 := hB16.size
    clear hb16
    go_wp2_with fail
    refine (toP_MR ea cr A xs.length c w.heap.size xs w16 hX hsw16 hn21).mono ?_
    rintro x w17 ⟨g17, rfl, m17, hb17⟩
    replace hP := hP.below hb17 (by first | omega | exact hP.lt | (simp; done) | (simp; omega))
    (try clear hP_c0); (try clear hP_f0)
    (try clear hP_c1); (try clear hP_f1)
    (try clear hP_c2); (try clear hP_f2)
    (try clear hP_lt)
    have hP_lt := hP.lt; (try simp only [World.size_alloc] at hP_lt)
    have hP_c0 := hP.cell 0; have hP_f0 := hP.frozen 0
    have hP_c1 := hP.cell 1; have hP_f1 := hP.frozen 1
    have hP_c2 := hP.cell 2; have hP_f2 := hP.frozen 2
    simp only [List.getElem?_toArray, List.getElem?_cons_zero, List.getElem?_cons_succ] at hP_c0 hP_c1 hP_c2
    replace hO4 := hO4.below hb17 (by first | omega | exact hO4.lt | (simp; done) | (simp; omega))
    (try clear hO4_c0); (try clear hO4_f0)
    (try clear hO4_c1); (try clear hO4_f1)
    (try clear hO4_c2); (try clear hO4_f2)
    (try clear hO4_lt)
    have hO4_lt := hO4.lt; (try simp only [World.size_alloc] at hO4_lt)
    have hO4_c0 := hO4.cell 0; have hO4_f0 := hO4.frozen 0
    have hO4_c1 := hO4.cell 1; have hO4_f1 := hO4.frozen 1
    have hO4_c2 := hO4.cell 2; have hO4_f2 := hO4.frozen 2
    simp only [List.getElem?_toArray, List.getElem?_cons_zero, List.getElem?_cons_succ] at hO4_c0 hO4_c1 hO4_c2
    replace hO7 := hO7.below hb17 (by first | omega | exact hO7.lt | (simp; done) | (simp; omega))
    (try clear hO7_c0); (try clear hO7_f0)
    (try clear hO7_c1); (try clear hO7_f1)
    (try clear hO7_c2); (try clear hO7_f2)
    (try clear hO7_lt)
    have hO7_lt := hO7.lt; (try simp only [World.size_alloc] at hO7_lt)
    have hO7_c0 := hO7.cell 0; have hO7_f0 := hO7.frozen 0
    have hO7_c1 := hO7.cell 1; have hO7_f1 := hO7.frozen 1
    have hO7_c2 := hO7.cell 2; have hO7_f2 := hO7.frozen 2
    simp only [List.getElem?_toArray, List.getElem?_cons_zero, List.getElem?_cons_succ] at hO7_c0 hO7_c1 hO7_c2
    replace hO8 := hO8.below hb17 (by first | omega | exact hO8.lt | (simp; done) | (simp; omega))
    (try clear hO8_c0); (try clear hO8_f0)
    (try clear hO8_c1); (try clear hO8_f1)
    (try clear hO8_c2); (try clear hO8_f2)
    (try clear hO8_lt)
    have hO8_lt := hO8.lt; (try simp only [World.size_alloc] at hO8_lt)
    have hO8_c0 := hO8.cell 0; have hO8_f0 := hO8.frozen 0
    have hO8_c1 := hO8.cell 1; have hO8_f1 := hO8.frozen 1
    have hO8_c2 := hO8.cell 2; have hO8_f2 := hO8.frozen 2
    simp only [List.getElem?_toArray, List.getElem?_cons_zero, List.getElem?_cons_succ] at hO8_c0 hO8_c1 hO8_c2
    replace hX := hX.below (hb17.mono hsw16)
    replace my3 := my3.below_ hb17
    replace mz3 := mz3.below_ hb17
    replace hky := hky.below_ hb17
    replace hkz := hkz.below_ hb17
    have hB17 : Below w.heap.size w w17 := hB16.trans (hb17.mono hsw16)
    have hsw17 := hB17.size
    clear hb17
    go_wp2_with fail
    refine (itick_all ea cr (some ⟨g17, 0, none⟩) xs.length xs.length xs w17 m17.seq hn40).mono ?_
    rintro x w18 ⟨A18, c18, g18, cs18, B18, d18, f18, ds18, rfl, my18, mz18, -, hb18⟩
    clear m17
    replace hP := hP.below hb18 (by first | omega | exact hP.lt | (simp; done) | (simp; omega))
    (try clear hP_c0); (try clear hP_f0)
    (try clear hP_c1); (try clear hP_f1)
    (try clear hP_c2); (try clear hP_f2)
    (try clear hP_lt)
    have hP_lt := hP.lt; (try simp only [World.size_alloc] at hP_lt)
    have hP_c0 := hP.cell 0; have hP_f0 := hP.frozen 0
    have hP_c1 := hP.cell 1; have hP_f1 := hP.frozen 1
    have hP_c2 := hP.cell 2; have hP_f2 := hP.frozen 2
    simp only [List.getElem?_toArray, List.getElem?_cons_zero, List.getElem?_cons_succ] at hP_c0 hP_c1 hP_c2
    replace hO4 := hO4.below hb18 (by first | omega | exact hO4.lt | (simp; done) | (simp; omega))
    (try clear hO4_c0); (try clear hO4_f0)
    (try clear hO4_c1); (try clear hO4_f1)
    (try clear hO4_c2); (try clear hO4_f2)
    (try clear hO4_lt)
    have hO4_lt := hO4.lt; (try simp only [World.size_alloc] at hO4_lt)
    have hO4_c0 := hO4.cell 0; have hO4_f0 := hO4.frozen 0
    have hO4_c1 := hO4.cell 1; have hO4_f1 := hO4.frozen 1
    have hO4_c2 := hO4.cell 2; have hO4_f2 := hO4.frozen 2
    simp only [List.getElem?_toArray, List.getElem?_cons_zero, List.getElem?_cons_succ] at hO4_c0 hO4_c1 hO4_c2
    replace hO7 := hO7.below hb18 (by first | omega | exact hO7.lt | (simp; done) | (simp; omega))
    (try clear hO7_c0); (try clear hO7_f0)
    (try clear hO7_c1); (try clear hO7_f1)
    (try clear hO7_c2); (try clear hO7_f2)
    (try clear hO7_lt)
    have hO7_lt := hO7.lt; (try simp only [World.size_alloc] at hO7_lt)
    have hO7_c0 := hO7.cell 0; have hO7_f0 := hO7.frozen 0
    have hO7_c1 := hO7.cell 1; have hO7_f1 := hO7.frozen 1
    have hO7_c2 := hO7.cell 2; have hO7_f2 := hO7.frozen 2
    simp only [List.getElem?_toArray, List.getElem?_cons_zero, List.getElem?_cons_succ] at hO7_c0 hO7_c1 hO7_c2
    replace hO8 := hO8.below hb18 (by first | omega | exact hO8.lt | (simp; done) | (simp; omega))
    (try clear hO8_c0); (try clear hO8_f0)
    (try clear hO8_c1); (try clear hO8_f1)
    (try clear hO8_c2); (try clear hO8_f2)
    (try clear hO8_lt)
    have hO8_lt := hO8.lt; (try simp only [World.size_alloc] at hO8_lt)
    have hO8_c0 := hO8.cell 0; have hO8_f0 := hO8.frozen 0
    have hO8_c1 := hO8.cell 1; have hO8_f1 := hO8.frozen 1
    have hO8_c2 := hO8.cell 2; have hO8_f2 := hO8.frozen 2
    simp only [List.getElem?_toArray, List.getElem?_cons_zero, List.getElem?_cons_succ] at hO8_c0 hO8_c1 hO8_c2
    replace hX := hX.below (hb18.mono hsw17)
    replace my3 := my3.below_ hb18
    replace mz3 := mz3.below_ hb18
    replace hky := hky.below_ hb18
    replace hkz := hkz.below_ hb18
    have hB18 : Below w.heap.size w w18 := hB17.trans (hb18.mono hsw17)
    have hsw18 := hB18.size
    clear hb18
    have hbx : Below w18.heap.size w18 (w18.alloc (.cells #[.int .i64 (tE ea cr xs), .int .i64 (tC ea cr xs), .slice A18 (tY ea cr xs).length c18] 25)) := (by repeat (first | exact Below.refl _ _ | assumption | refine Below.setCell ?_ (by first | omega | (simp; done) | (simp; omega)) _ | refine Below.alloc ?_ (by first | omega | (simp; done) | (simp; omega)) _ | refine Below.drew ?_ | refine Below.drewN' ?_ _ | refine Below.trans ?_ (Below.mono (by assumption) (by first | omega | (simp; done) | (simp; omega)))))
    have hO14 := Bk.new w18 25 #[.int .i64 (tE ea cr xs), .int .i64 (tC ea cr xs), .slice A18 (tY ea cr xs).length c18]
    replace hP := hP.below hbx hP.lt
    replace hO4 := hO4.below hbx hO4.lt
    replace hO7 := hO7.below hbx hO7.lt
    replace hO8 := hO8.below hbx hO8.lt
    replace hX := hX.below (hbx.mono hsw18)
    replace my3 := my3.below_ hbx
    replace mz3 := mz3.below_ hbx
    replace my18 := my18.below_ hbx
    replace mz18 := mz18.below_ hbx
    replace hky := hky.below_ hbx
    replace hkz := hkz.below_ hbx
    have hBx := hB18.trans (hbx.mono hsw18)
    have hswx := hBx.size
    (try clear hP_c0); (try clear hP_f0)
    (try clear hP_c1); (try clear hP_f1)
    (try clear hP_c2); (try clear hP_f2)
    (try clear hP_lt)
    have hP_lt := hP.lt; (try simp only [World.size_alloc] at hP_lt)
    have hP_c0 := hP.cell 0; have hP_f0 := hP.frozen 0
    have hP_c1 := hP.cell 1; have hP_f1 := hP.frozen 1
    have hP_c2 := hP.cell 2; have hP_f2 := hP.frozen 2
    simp only [List.getElem?_toArray, List.getElem?_cons_zero, List.getElem?_cons_succ] at hP_c0 hP_c1 hP_c2
    (try clear hO4_c0); (try clear hO4_f0)
    (try clear hO4_c1); (try clear hO4_f1)
    (try clear hO4_c2); (try clear hO4_f2)
    (try clear hO4_lt)
    have hO4_lt := hO4.lt; (try simp only [World.size_alloc] at hO4_lt)
    have hO4_c0 := hO4.cell 0; have hO4_f0 := hO4.frozen 0
    have hO4_c1 := hO4.cell 1; have hO4_f1 := hO4.frozen 1
    have hO4_c2 := hO4.cell 2; have hO4_f2 := hO4.frozen 2
    simp only [List.getElem?_toArray, List.getElem?_cons_zero, List.getElem?_cons_succ] at hO4_c0 hO4_c1 hO4_c2
    (try clear hO7_c0); (try clear hO7_f0)
    (try clear hO7_c1); (try clear hO7_f1)
    (try clear hO7_c2); (try clear hO7_f2)
    (try clear hO7_lt)
    have hO7_lt := hO7.lt; (try simp only [World.size_alloc] at hO7_lt)
    have hO7_c0 := hO7.cell 0; have hO7_f0 := hO7.frozen 0
    have hO7_c1 := hO7.cell 1; have hO7_f1 := hO7.frozen 1
    have hO7_c2 := hO7.cell 2; have hO7_f2 := hO7.frozen 2
    simp only [List.getElem?_toArray, List.getElem?_cons_zero, List.getElem?_cons_succ] at hO7_c0 hO7_c1 hO7_c2
    (try clear hO8_c0); (try clear hO8_f0)
    (try clear hO8_c1); (try clear hO8_f1)
    (try clear hO8_c2); (try clear hO8_f2)
    (try clear hO8_lt)
    have hO8_lt := hO8.lt; (try simp only [World.size_alloc] at hO8_lt)
    have hO8_c0 := hO8.cell 0; have hO8_f0 := hO8.frozen 0
    have hO8_c1 := hO8.cell 1; have hO8_f1 := hO8.frozen 1
    have hO8_c2 := hO8.cell 2; have hO8_f2 := hO8.frozen 2
    simp only [List.getElem?_toArray, List.getElem?_cons_zero, List.getElem?_cons_succ] at hO8_c0 hO8_c1 hO8_c2
    (try clear hO14_c0); (try clear hO14_f0)
    (try clear hO14_c1); (try clear hO14_f1)
    (try clear hO14_c2); (try clear hO14_f2)
    (try clear hO14_lt)
    have hO14_lt := hO14.lt; (try simp only [World.size_alloc] at hO14_lt)
    have hO14_c0 := hO14.cell 0; have hO14_f0 := hO14.frozen 0
    have hO14_c1 := hO14.cell 1; have hO14_f1 := hO14.frozen 1
    have hO14_c2 := hO14.cell 2; have hO14_f2 := hO14.frozen 2
    simp only [List.getElem?_toArray, List.getElem?_cons_zero, List.getElem?_cons_succ] at hO14_c0 hO14_c1 hO14_c2
    clear hbx
    go_wp2_with fail
    refine (eqP_MR _ _ c18 c3 my18 my3 hyl2).mono ?_
    rintro x w19 ⟨rfl, hb19⟩
    replace hP := hP.below hb19 (by first | omega | exact hP.lt | (simp; done) | (simp; omega))
    (try clear hP_c0); (try clear hP_f0)
    (try clear hP_c1); (try clear hP_f1)
    (try clear hP_c2); (try clear hP_f2)
    (try clear hP_lt)
    have hP_lt := hP.lt; (try simp only [World.size_alloc] at hP_lt)
    have hP_c0 := hP.cell 0; have hP_f0 := hP.frozen 0
    have hP_c1 := hP.cell 1; have hP_f1 := hP.frozen 1
    have hP_c2 := hP.cell 2; have hP_f2 := hP.frozen 2
    simp only [List.getElem?_toArray, List.getElem?_cons_zero, List.getElem?_cons_succ] at hP_c0 hP_c1 hP_c2
    replace hO4 := hO4.below hb19 (by first | omega | exact hO4.lt | (simp; done) | (simp; omega))
    (try clear hO4_c0); (try clear hO4_f0)
    (try clear hO4_c1); (try clear hO4_f1)
    (try clear hO4_c2); (try clear hO4_f2)
    (try clear hO4_lt)
    have hO4_lt := hO4.lt; (try simp only [World.size_alloc] at hO4_lt)
    have hO4_c0 := hO4.cell 0; have hO4_f0 := hO4.frozen 0
    have hO4_c1 := hO4.cell 1; have hO4_f1 := hO4.frozen 1
    have hO4_c2 := hO4.cell 2; have hO4_f2 := hO4.frozen 2
    simp only [List.getElem?_toArray, List.getElem?_cons_zero, List.getElem?_cons_succ] at hO4_c0 hO4_c1 hO4_c2
    replace hO7 := hO7.below hb19 (by first | omega | exact hO7.lt | (simp; done) | (simp; omega))
    (try clear hO7_c0); (try clear hO7_f0)
    (try clear hO7_c1); (try clear hO7_f1)
    (try clear hO7_c2); (try clear hO7_f2)
    (try clear hO7_lt)
    have hO7_lt := hO7.lt; (try simp only [World.size_alloc] at hO7_lt)
    have hO7_c0 := hO7.cell 0; have hO7_f0 := hO7.frozen 0
    have hO7_c1 := hO7.cell 1; have hO7_f1 := hO7.frozen 1
    have hO7_c2 := hO7.cell 2; have hO7_f2 := hO7.frozen 2
    simp only [List.getElem?_toArray, List.getElem?_cons_zero, List.getElem?_cons_succ] at hO7_c0 hO7_c1 hO7_c2
    replace hO8 := hO8.below hb19 (by first | omega | exact hO8.lt | (simp; done) | (simp; omega))
    (try clear hO8_c0); (try clear hO8_f0)
    (try clear hO8_c1); (try clear hO8_f1)
    (try clear hO8_c2); (try clear hO8_f2)
    (try clear hO8_lt)
    have hO8_lt := hO8.lt; (try simp only [World.size_alloc] at hO8_lt)
    have hO8_c0 := hO8.cell 0; have hO8_f0 := hO8.frozen 0
    have hO8_c1 := hO8.cell 1; have hO8_f1 := hO8.frozen 1
    have hO8_c2 := hO8.cell 2; have hO8_f2 := hO8.frozen 2
    simp only [List.getElem?_toArray, List.getElem?_cons_zero, List.getElem?_cons_succ] at hO8_c0 hO8_c1 hO8_c2
    replace hO14 := hO14.below hb19 (by first | omega | exact hO14.lt | (simp; done) | (simp; omega))
    (try clear hO14_c0); (try clear hO14_f0)
    (try clear hO14_c1); (try clear hO14_f1)
    (try clear hO14_c2); (try clear hO14_f2)
    (try clear hO14_lt)
    have hO14_lt := hO14.lt; (try simp only [World.size_alloc] at hO14_lt)
    have hO14_c0 := hO14.cell 0; have hO14_f0 := hO14.frozen 0
    have hO14_c1 := hO14.cell 1; have hO14_f1 := hO14.frozen 1
    have hO14_c2 := hO14.cell 2; have hO14_f2 := hO14.frozen 2
    simp only [List.getElem?_toArray, List.getElem?_cons_zero, List.getElem?_cons_succ] at hO14_c0 hO14_c1 hO14_c2
    replace hX := hX.below (hb19.mono hswx)
    replace my3 := my3.below_ hb19
    replace mz3 := mz3.below_ hb19
    replace my18 := my18.below_ hb19
    replace mz18 := mz18.below_ hb19
    replace hky := hky.below_ hb19
    replace hkz := hkz.below_ hb19
    have hB19 : Below w.heap.size w w19 := hBx.trans (hb19.mono hswx)
    have hsw19 := hB19.size
    clear hb19 hBx hswx
    go_wp2_with fail
    refine (eqW_MR d18 d3 mz18 mz3 hzl2).mono ?_
    rintro x w20 ⟨rfl, hb20⟩
    replace hP := hP.below hb20 (by first | omega | exact hP.lt | (simp; done) | (simp; omega))
    (try clear hP_c0); (try clear hP_f0)
    (try clear hP_c1); (try clear hP_f1)
    (try clear hP_c2); (try clear hP_f2)
    (try clear hP_lt)
    have hP_lt := hP.lt; (try simp only [World.size_alloc] at hP_lt)
    have hP_c0 := hP.cell 0; have hP_f0 := hP.frozen 0
    have hP_c1 := hP.cell 1; have hP_f1 := hP.frozen 1
    have hP_c2 := hP.cell 2; have hP_f2 := hP.frozen 2
    simp only [List.getElem?_toArray, List.getElem?_cons_zero, List.getElem?_cons_succ] at hP_c0 hP_c1 hP_c2
    replace hO4 := hO4.below hb20 (by first | omega | exact hO4.lt | (simp; done) | (simp; omega))
    (try clear hO4_c0); (try clear hO4_f0)
    (try clear hO4_c1); (try clear hO4_f1)
    (try clear hO4_c2); (try clear hO4_f2)
    (try clear hO4_lt)
    have hO4_lt := hO4.lt; (try simp only [World.size_alloc] at hO4_lt)
    have hO4_c0 := hO4.cell 0; have hO4_f0 := hO4.frozen 0
    have hO4_c1 := hO4.cell 1; have hO4_f1 := hO4.frozen 1
    have hO4_c2 := hO4.cell 2; have hO4_f2 := hO4.frozen 2
    simp only [List.getElem?_toArray, List.getElem?_cons_zero, List.getElem?_cons_succ] at hO4_c0 hO4_c1 hO4_c2
    replace hO7 := hO7.below hb20 (by first | omega | exact hO7.lt | (simp; done) | (simp; omega))
    (try clear hO7_c0); (try clear hO7_f0)
    (try clear hO7_c1); (try clear hO7_f1)
    (try clear hO7_c2); (try clear hO7_f2)
    (try clear hO7_lt)
    have hO7_lt := hO7.lt; (try simp only [World.size_alloc] at hO7_lt)
    have hO7_c0 := hO7.cell 0; have hO7_f0 := hO7.frozen 0
    have hO7_c1 := hO7.cell 1; have hO7_f1 := hO7.frozen 1
    have hO7_c2 := hO7.cell 2; have hO7_f2 := hO7.frozen 2
    simp only [List.getElem?_toArray, List.getElem?_cons_zero, List.getElem?_cons_succ] at hO7_c0 hO7_c1 hO7_c2
    replace hO8 := hO8.below hb20 (by first | omega | exact hO8.lt | (simp; done) | (simp; omega))
    (try clear hO8_c0); (try clear hO8_f0)
    (try clear hO8_c1); (try clear hO8_f1)
    (try clear hO8_c2); (try clear hO8_f2)
    (try clear hO8_lt)
    have hO8_lt := hO8.lt; (try simp only [World.size_alloc] at hO8_lt)
    have hO8_c0 := hO8.cell 0; have hO8_f0 := hO8.frozen 0
    have hO8_c1 := hO8.cell 1; have hO8_f1 := hO8.frozen 1
    have hO8_c2 := hO8.cell 2; have hO8_f2 := hO8.frozen 2
    simp only [List.getElem?_toArray, List.getElem?_cons_zero, List.getElem?_cons_succ] at hO8_c0 hO8_c1 hO8_c2
    replace hO14 := hO14.below hb20 (by first | omega | exact hO14.lt | (simp; done) | (simp; omega))
    (try clear hO14_c0); (try clear hO14_f0)
    (try clear hO14_c1); (try clear hO14_f1)
    (try clear hO14_c2); (try clear hO14_f2)
    (try clear hO14_lt)
    have hO14_lt := hO14.lt; (try simp only [World.size_alloc] at hO14_lt)
    have hO14_c0 := hO14.cell 0; have hO14_f0 := hO14.frozen 0
    have hO14_c1 := hO14.cell 1; have hO14_f1 := hO14.frozen 1
    have hO14_c2 := hO14.cell 2; have hO14_f2 := hO14.frozen 2
    simp only [List.getElem?_toArray, List.getElem?_cons_zero, List.getElem?_cons_succ] at hO14_c0 hO14_c1 hO14_c2
    replace hX := hX.below (hb20.mono hsw19)
    replace my3 := my3.below_ hb20
    replace mz3 := mz3.below_ hb20
    replace my18 := my18.below_ hb20
    replace mz18 := mz18.below_ hb20
    replace hky := hky.below_ hb20
    replace hkz := hkz.below_ hb20
    have hB20 : Below w.heap.size w w20 := hB19.trans (hb20.mono hsw19)
    have hsw20 := hB20.size
    clear hb20
    go_wp2_with fail
    refine (heldP_MK _ _ c5 1 hky HA5.out hyl2 (by omega) (by omega)).mono ?_
    rintro x w21 ⟨rfl, hb21⟩
    replace hP := hP.below hb21 (by first | omega | exact hP.lt | (simp; done) | (simp; omega))
    (try clear hP_c0); (try clear hP_f0)
    (try clear hP_c1); (try clear hP_f1)
    (try clear hP_c2); (try clear hP_f2)
    (try clear hP_lt)
    have hP_lt := hP.lt; (try simp only [World.size_alloc] at hP_lt)
    have hP_c0 := hP.cell 0; have hP_f0 := hP.frozen 0
    have hP_c1 := hP.cell 1; have hP_f1 := hP.frozen 1
    have hP_c2 := hP.cell 2; have hP_f2 := hP.frozen 2
    simp only [List.getElem?_toArray, List.getElem?_cons_zero, List.getElem?_cons_succ] at hP_c0 hP_c1 hP_c2
    replace hO4 := hO4.below hb21 (by first | omega | exact hO4.lt | (simp; done) | (simp; omega))
    (try clear hO4_c0); (try clear hO4_f0)
    (try clear hO4_c1); (try clear hO4_f1)
    (try clear hO4_c2); (try clear hO4_f2)
    (try clear hO4_lt)
    have hO4_lt := hO4.lt; (try simp only [World.size_alloc] at hO4_lt)
    have hO4_c0 := hO4.cell 0; have hO4_f0 := hO4.frozen 0
    have hO4_c1 := hO4.cell 1; have hO4_f1 := hO4.frozen 1
    have hO4_c2 := hO4.cell 2; have hO4_f2 := hO4.frozen 2
    simp only [List.getElem?_toArray, List.getElem?_cons_zero, List.getElem?_cons_succ] at hO4_c0 hO4_c1 hO4_c2
    replace hO7 := hO7.below hb21 (by first | omega | exact hO7.lt | (simp; done) | (simp; omega))
    (try clear hO7_c0); (try clear hO7_f0)
    (try clear hO7_c1); (try clear hO7_f1)
    (try clear hO7_c2); (try clear hO7_f2)
    (try clear hO7_lt)
    have hO7_lt := hO7.lt; (try simp only [World.size_alloc] at hO7_lt)
    have hO7_c0 := hO7.cell 0; have hO7_f0 := hO7.frozen 0
    have hO7_c1 := hO7.cell 1; have hO7_f1 := hO7.frozen 1
    have hO7_c2 := hO7.cell 2; have hO7_f2 := hO7.frozen 2
    simp only [List.getElem?_toArray, List.getElem?_cons_zero, List.getElem?_cons_succ] at hO7_c0 hO7_c1 hO7_c2
    replace hO8 := hO8.below hb21 (by first | omega | exact hO8.lt | (simp; done) | (simp; omega))
    (try clear hO8_c0); (try clear hO8_f0)
    (try clear hO8_c1); (try clear hO8_f1)
    (try clear hO8_c2); (try clear hO8_f2)
    (try clear hO8_lt)
    have hO8_lt := hO8.lt; (try simp only [World.size_alloc] at hO8_lt)
    have hO8_c0 := hO8.cell 0; have hO8_f0 := hO8.frozen 0
    have hO8_c1 := hO8.cell 1; have hO8_f1 := hO8.frozen 1
    have hO8_c2 := hO8.cell 2; have hO8_f2 := hO8.frozen 2
    simp only [List.getElem?_toArray, List.getElem?_cons_zero, List.getElem?_cons_succ] at hO8_c0 hO8_c1 hO8_c2
    replace hO14 := hO14.below hb21 (by first | omega | exact hO14.lt | (simp; done) | (simp; omega))
    (try clear hO14_c0); (try clear hO14_f0)
    (try clear hO14_c1); (try clear hO14_f1)
    (try clear hO14_c2); (try clear hO14_f2)
    (try clear hO14_lt)
    have hO14_lt := hO14.lt; (try simp only [World.size_alloc] at hO14_lt)
    have hO14_c0 := hO14.cell 0; have hO14_f0 := hO14.frozen 0
    have hO14_c1 := hO14.cell 1; have hO14_f1 := hO14.frozen 1
    have hO14_c2 := hO14.cell 2; have hO14_f2 := hO14.frozen 2
    simp only [List.getElem?_toArray, List.getElem?_cons_zero, List.getElem?_cons_succ] at hO14_c0 hO14_c1 hO14_c2
    replace hX := hX.below (hb21.mono hsw20)
    replace my3 := my3.below_ hb21
    replace mz3 := mz3.below_ hb21
    replace my18 := my18.below_ hb21
    replace mz18 := mz18.below_ hb21
    replace hky := hky.below_ hb21
    replace hkz := hkz.below_ hb21
    have hB21 : Below w.heap.size w w21 := hB20.trans (hb21.mono hsw20)
    have hsw21 := hB21.size
    clear hb21
    go_wp2_with fail
    refine (heldW_MK d5 _ hkz HB5.out hzl2 (by omega) (by omega)).mono ?_
    rintro x w22 ⟨rfl, hb22⟩
    replace hP := hP.below hb22 (by first | omega | exact hP.lt | (simp; done) | (simp; omega))
    (try clear hP_c0); (try clear hP_f0)
    (try clear hP_c1); (try clear hP_f1)
    (try clear hP_c2); (try clear hP_f2)
    (try clear hP_lt)
    have hP_lt := hP.lt; (try simp only [World.size_alloc] at hP_lt)
    have hP_c0 := hP.cell 0; have hP_f0 := hP.frozen 0
    have hP_c1 := hP.cell 1; have hP_f1 := hP.frozen 1
    have hP_c2 := hP.cell 2; have hP_f2 := hP.frozen 2
    simp only [List.getElem?_toArray, List.getElem?_cons_zero, List.getElem?_cons_succ] at hP_c0 hP_c1 hP_c2
    replace hO4 := hO4.below hb22 (by first | omega | exact hO4.lt | (simp; done) | (simp; omega))
    (try clear hO4_c0); (try clear hO4_f0)
    (try clear hO4_c1); (try clear hO4_f1)
    (try clear hO4_c2); (try clear hO4_f2)
    (try clear hO4_lt)
    have hO4_lt := hO4.lt; (try simp only [World.size_alloc] at hO4_lt)
    have hO4_c0 := hO4.cell 0; have hO4_f0 := hO4.frozen 0
    have hO4_c1 := hO4.cell 1; have hO4_f1 := hO4.frozen 1
    have hO4_c2 := hO4.cell 2; have hO4_f2 := hO4.frozen 2
    simp only [List.getElem?_toArray, List.getElem?_cons_zero, List.getElem?_cons_succ] at hO4_c0 hO4_c1 hO4_c2
    replace hO7 := hO7.below hb22 (by first | omega | exact hO7.lt | (simp; done) | (simp; omega))
    (try clear hO7_c0); (try clear hO7_f0)
    (try clear hO7_c1); (try clear hO7_f1)
    (try clear hO7_c2); (try clear hO7_f2)
    (try clear hO7_lt)
    have hO7_lt := hO7.lt; (try simp only [World.size_alloc] at hO7_lt)
    have hO7_c0 := hO7.cell 0; have hO7_f0 := hO7.frozen 0
    have hO7_c1 := hO7.cell 1; have hO7_f1 := hO7.frozen 1
    have hO7_c2 := hO7.cell 2; have hO7_f2 := hO7.frozen 2
    simp only [List.getElem?_toArray, List.getElem?_cons_zero, List.getElem?_cons_succ] at hO7_c0 hO7_c1 hO7_c2
    replace hO8 := hO8.below hb22 (by first | omega | exact hO8.lt | (simp; done) | (simp; omega))
    (try clear hO8_c0); (try clear hO8_f0)
    (try clear hO8_c1); (try clear hO8_f1)
    (try clear hO8_c2); (try clear hO8_f2)
    (try clear hO8_lt)
    have hO8_lt := hO8.lt; (try simp only [World.size_alloc] at hO8_lt)
    have hO8_c0 := hO8.cell 0; have hO8_f0 := hO8.frozen 0
    have hO8_c1 := hO8.cell 1; have hO8_f1 := hO8.frozen 1
    have hO8_c2 := hO8.cell 2; have hO8_f2 := hO8.frozen 2
    simp only [List.getElem?_toArray, List.getElem?_cons_zero, List.getElem?_cons_succ] at hO8_c0 hO8_c1 hO8_c2
    replace hO14 := hO14.below hb22 (by first | omega | exact hO14.lt | (simp; done) | (simp; omega))
    (try clear hO14_c0); (try clear hO14_f0)
    (try clear hO14_c1); (try clear hO14_f1)
    (try clear hO14_c2); (try clear hO14_f2)
    (try clear hO14_lt)
    have hO14_lt := hO14.lt; (try simp only [World.size_alloc] at hO14_lt)
    have hO14_c0 := hO14.cell 0; have hO14_f0 := hO14.frozen 0
    have hO14_c1 := hO14.cell 1; have hO14_f1 := hO14.frozen 1
    have hO14_c2 := hO14.cell 2; have hO14_f2 := hO14.frozen 2
    simp only [List.getElem?_toArray, List.getElem?_cons_zero, List.getElem?_cons_succ] at hO14_c0 hO14_c1 hO14_c2
    replace hX := hX.below (hb22.mono hsw21)
    replace my3 := my3.below_ hb22
    replace mz3 := mz3.below_ hb22
    replace my18 := my18.below_ hb22
    replace mz18 := mz18.below_ hb22
    replace hky := hky.below_ hb22
    replace hkz := hkz.below_ hb22
    have hB22 : Below w.heap.size w w22 := hB21.trans (hb22.mono hsw21)
    have hsw22 := hB22.size
    go_wp2
    go_ret
    exact ⟨rfl, hB22⟩

set_option maxRecDepth 100000 in
theorem lifted (os : Os) (started : os.Started) (H : Type) (enc : TypeId × Value → H) :
    ReturnsInHanded {} Try.checked os 12 .any (Rows.fnExactPacerTickSpec.pre6 enc Try.prog Try.f12 Rows.fnExactPacerTickRow.domain false) (Rows.fnExactPacerTickSpec.post enc Try.prog Try.f12 false true false false) := by
  refine returnsInHanded_of_change (C := Try.checked) own started (by kernel_rfl) Try.func12
    (ChangeSpec.witness6 (enc := enc) (C := Try.checked) false ⟨#[], #[.agg #[.int .i64 0, .int .i64 0, .slice none 0 0]], []⟩ 8 (by kernel_rfl) (by kernel_rfl) (by kernel_rfl) (by kernel_rfl)) ?_
  intro W base args ds gs before hval0 hW hcnd _
  have hval : ∀ (j : Nat) t v, Try.f12.params[j]? = some t → args[j]? = some v → Value.okWide Try.prog W .any base t v := hval0
  have hW' := hW
  obtain ⟨p, q, hA0, hV, rfl, hfz, hnd⟩ := hW
  have hA : DataW.TrodAll enc Try.prog W 0 (fun _ => true) true Try.f12.params.toList args.toList ds p := hA0
  rw [Try.params12] at hA hval
  obtain ⟨v0, vs0, d0, ds0, p0, q0, hargs, rfl, rfl, h0, r0⟩ := trodAll_cons hA
  obtain ⟨rfl, rfl, rfl⟩ := trodAll_nil r0
  obtain rfl : args = #[v0] := by cases args; simp_all
  obtain ⟨rfl, rfl⟩ := trodVars_none hV
  obtain ⟨ea, cr, A, n, c, xs, rfl, hnc, hcm, hws⟩ := open_pacer (hval 0 42 v0 rfl rfl) h0
  have lt0 : ∀ x ∈ p0, x.block < W.heap.size := by obtain ⟨m, hm⟩ := h0; exact DataW.trod_lt m _ _ _ hm
  clear hA0 hval0
  refine (walk ea cr A n c xs W hws hnc hcm).mono fun e W' ⟨he, bel⟩ => ?_
  subst he
  exact ⟨_, rfl, _, _, _, [], _, [], hW', trodAll_mk1 (shut_bool Try.underlying4 _), (trodAll_cons_mk (Below.trod laidOut (by kernel_rfl) (of_decide_eq_true (by kernel_rfl)) h0 bel lt0) trodAll_mk0), rfl, bel.frame _, fun h => by cases h⟩

theorem over : Rows.fnExactPacerTickRow.holds Try.pinned (OpenSpec.ofChange Rows.fnExactPacerTickSpec) :=
  OpenClaim.holds_of_wide 12 Try.f12 rfl rfl rfl rfl rfl rfl rfl ⟨rfl, rfl, rfl, rfl, rfl⟩ rfl rfl rfl rfl rfl (by kernel_rfl) Try.func12 (by kernel_rfl)
    (of_decide_eq_true (by kernel_rfl)) (by unfold Func.isWrapper; first | (rw [if_pos (by decide +kernel)]; kernel_rfl) | (rw [if_neg (by decide +kernel)]; exact ⟨rfl, rfl⟩))
    (fun os started H enc _ => lifted os started H enc)

/-- THE STATEMENT -/
theorem proved : Rows.FnExactPacerTickSaid := over
#print axioms proved
end Go.Proofs.Ytilokgloocbbnaa.fnExactPacerTick
