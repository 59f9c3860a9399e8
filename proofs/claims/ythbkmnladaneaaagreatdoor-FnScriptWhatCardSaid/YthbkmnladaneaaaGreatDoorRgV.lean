/-
  Rings: what is valid; both programs' RingValid.
  Conditions: as each theorem states them.
-/
import Derived.Test.YthbkmnladaneaaaGreatDoorPkV
import Derived.Test.YthbkmnladaneaaaGreatDoorBut
namespace Go.Proofs.YthbkmnladaneaaaGreatDoor
open Go.RowKit
set_option linter.unusedVariables false
set_option linter.unusedSimpArgs false

def inB (x a b : Int) : Bool := decide (a ≤ x ∧ x ≤ b)
set_option maxHeartbeats 1000000 in
theorem l6In_any (x a b : Int) (w : World) : Calls Tryz.prog 64 #[.int .i64 x, .int .i64 a, .int .i64 b] w fun e w' => e = .returned (.bool (inB x a b)) ∧ Below w.heap.size w w' := by
  go_enter Tryz.func64, Tryz.ntmps64
  go_wp2_with go_in
  all_goals
    go_ret
    exact ⟨ret_bool (by unfold inB; first | exact decide_eq_decide.2 (by omega) | exact (decide_eq_false (by omega)).symm | exact (decide_eq_true (by omega)).symm), (by repeat (first | exact Below.refl _ _ | assumption | refine Below.setCell ?_ (by first | omega | (simp; done) | (simp; omega)) _ | refine Below.alloc ?_ (by first | omega | (simp; done) | (simp; omega)) _ | refine Below.drew ?_ | refine Below.drewN' ?_ _ | refine Below.trans ?_ (Below.mono (by assumption) (by first | omega | (simp; done) | (simp; omega)))))⟩
set_option maxHeartbeats 1000000 in
theorem wideV_any (x : Int) (w : World) : Calls Tryz.prog 93 #[.int .i64 x] w fun e w' => e = .returned (.bool (inB x 0 999999)) ∧ Below w.heap.size w w' := by
  go_enter Tryz.func93, Tryz.ntmps93
  go_wp2_with go_in
  all_goals
    go_ret
    exact ⟨ret_bool (by unfold inB; first | exact decide_eq_decide.2 (by omega) | exact (decide_eq_false (by omega)).symm | exact (decide_eq_true (by omega)).symm), (by repeat (first | exact Below.refl _ _ | assumption | refine Below.setCell ?_ (by first | omega | (simp; done) | (simp; omega)) _ | refine Below.alloc ?_ (by first | omega | (simp; done) | (simp; omega)) _ | refine Below.drew ?_ | refine Below.drewN' ?_ _ | refine Below.trans ?_ (Below.mono (by assumption) (by first | omega | (simp; done) | (simp; omega)))))⟩

def rgOk (ro co : Int) (xs : List Pk) : Prop := 1 ≤ ro ∧ ro ≤ 8 ∧ 0 ≤ co ∧ co ≤ 999999 ∧ psOk xs ∧ (xs.length : Int) = min ro co
noncomputable def rgB (ro co : Int) (xs : List Pk) : Bool := @decide (rgOk ro co xs) (Classical.propDecidable _)
theorem rgB_true {ro co : Int} {xs : List Pk} : rgB ro co xs = true ↔ rgOk ro co xs := by unfold rgB; exact @decide_eq_true_iff _ (Classical.propDecidable _)
theorem rgB_false {ro co : Int} {xs : List Pk} : rgB ro co xs = false ↔ ¬ rgOk ro co xs := by unfold rgB; exact @decide_eq_false_iff_not _ (Classical.propDecidable _)
theorem rgB_key {ro co : Int} {xs : List Pk} {n : Nat} (hn : xs.length = n) (h1 : 1 ≤ ro) (h2 : ro ≤ 8) (h3 : 0 ≤ co) (h4 : co ≤ 999999) (hp : psOk xs) : rgB ro co xs = ((n : Int) == min ro co) := by
  subst hn
  by_cases h : (xs.length : Int) = min ro co
  · rw [rgB_true.2 ⟨h1, h2, h3, h4, hp, h⟩]; simp [h]
  · rw [rgB_false.2 fun hh => h hh.2.2.2.2.2]; simp [h]

set_option maxHeartbeats 4000000 in
theorem srv_any (ro co : Int) (A : Option Addr) (n c : Nat) (xs : List Pk) (w : World) (h : Pks w w.heap.size A n xs) (hn : n ≤ 1099511627776) :
    Calls Tryz.prog 50 #[.agg #[.int .i64 ro, .int .i64 co, .slice A n c]] w fun e w' => e = .returned (.bool (rgB ro co xs)) ∧ Below w.heap.size w w' := by
  have HL := Lib.hid h.len
  have HV := Lib.hid (fun (w' : World) (hw : Below w.heap.size w w') => sps_any A n c xs w' ((h.below hw).more hw.size) hn)
  have hD := Bk.new w 34 #[.int .i64 ro, .int .i64 co, .slice A n c]
  have hBa : Below w.heap.size w (w.alloc (.cells #[.int .i64 ro, .int .i64 co, .slice A n c] 34)) := (Below.refl _ _).alloc (Nat.le_refl _) _
  have hmin := fun (w : World) (ts : Array TypeId) (t : TypeId) (x y : Int) => @run_min_plain Tryz.prog w ts t x y
  have v1 := fun w => l6In_any ro 1 8 w
  have v2 := fun w => l6In_any co 0 999999 w
  have hD_c0 := hD.cell 0
  have hD_c1 := hD.cell 1
  have hD_c2 := hD.cell 2
  clear h
  by_cases q1 : 1 ≤ ro ∧ ro ≤ 8
  · rw [show inB ro 1 8 = true from decide_eq_true q1] at v1
    by_cases q2 : 0 ≤ co ∧ co ≤ 999999
    · rw [show inB co 0 999999 = true from decide_eq_true q2] at v2
      by_cases q3 : psOk xs
      · have key := Lib.hid (rgB_key HL.out q1.1 q1.2 q2.1 q2.2 q3)
        have HV' := Lib.hid (fun w' hw => by have := HV.out w' hw; rw [psB_true.2 q3] at this; exact this)
        clear q3
        go_enter Tryz.func50, Tryz.ntmps50
        go_wp2_with (first | (go_at_call 64; (first | with_reducible refine (v1 _).mono ?_ | with_reducible refine (v2 _).mono ?_); rintro e w1 ⟨rfl, hb1⟩; replace hBa := hBa.trans (hb1.mono hBa.size); replace hD := hD.below hb1 hD.lt; clear hb1 hD_c0 hD_c1 hD_c2; have hD_c0 := hD.cell 0; have hD_c1 := hD.cell 1; have hD_c2 := hD.cell 2; simp only [List.getElem?_toArray, List.getElem?_cons_zero, List.getElem?_cons_succ] at hD_c0 hD_c1 hD_c2) | (go_at_call 65; refine (HV'.out _ hBa).mono ?_; rintro e w1 ⟨rfl, hb1⟩; replace hBa := hBa.trans (hb1.mono hBa.size); replace hD := hD.below hb1 hD.lt; clear hb1 hD_c0 hD_c1 hD_c2; have hD_c0 := hD.cell 0; have hD_c1 := hD.cell 1; have hD_c2 := hD.cell 2; simp only [List.getElem?_toArray, List.getElem?_cons_zero, List.getElem?_cons_succ] at hD_c0 hD_c1 hD_c2))
        go_ret
        exact ⟨ret_bool key.out.symm, hBa⟩
      · have key := Lib.hid ((rgB_false (ro := ro) (co := co) (xs := xs)).2 fun hh => q3 hh.2.2.2.2.1)
        have HV' := Lib.hid (fun w' hw => by have := HV.out w' hw; rw [psB_false.2 q3] at this; exact this)
        clear q3
        go_enter Tryz.func50, Tryz.ntmps50
        go_wp2_with (first | (go_at_call 64; (first | with_reducible refine (v1 _).mono ?_ | with_reducible refine (v2 _).mono ?_); rintro e w1 ⟨rfl, hb1⟩; replace hBa := hBa.trans (hb1.mono hBa.size); replace hD := hD.below hb1 hD.lt; clear hb1 hD_c0 hD_c1 hD_c2; have hD_c0 := hD.cell 0; have hD_c1 := hD.cell 1; have hD_c2 := hD.cell 2; simp only [List.getElem?_toArray, List.getElem?_cons_zero, List.getElem?_cons_succ] at hD_c0 hD_c1 hD_c2) | (go_at_call 65; refine (HV'.out _ hBa).mono ?_; rintro e w1 ⟨rfl, hb1⟩; replace hBa := hBa.trans (hb1.mono hBa.size); replace hD := hD.below hb1 hD.lt; clear hb1 hD_c0 hD_c1 hD_c2; have hD_c0 := hD.cell 0; have hD_c1 := hD.cell 1; have hD_c2 := hD.cell 2; simp only [List.getElem?_toArray, List.getElem?_cons_zero, List.getElem?_cons_succ] at hD_c0 hD_c1 hD_c2))
        go_ret
        exact ⟨ret_bool key.out.symm, hBa⟩
    · rw [show inB co 0 999999 = false from decide_eq_false q2] at v2
      have key := Lib.hid ((rgB_false (ro := ro) (co := co) (xs := xs)).2 fun hh => q2 ⟨hh.2.2.1, hh.2.2.2.1⟩)
      go_enter Tryz.func50, Tryz.ntmps50
      go_wp2_with (first | (go_at_call 64; (first | with_reducible refine (v1 _).mono ?_ | with_reducible refine (v2 _).mono ?_); rintro e w1 ⟨rfl, hb1⟩; replace hBa := hBa.trans (hb1.mono hBa.size); replace hD := hD.below hb1 hD.lt; clear hb1 hD_c0 hD_c1 hD_c2; have hD_c0 := hD.cell 0; have hD_c1 := hD.cell 1; have hD_c2 := hD.cell 2; simp only [List.getElem?_toArray, List.getElem?_cons_zero, List.getElem?_cons_succ] at hD_c0 hD_c1 hD_c2))
      go_ret
      exact ⟨ret_bool key.out.symm, hBa⟩
  · rw [show inB ro 1 8 = false from decide_eq_false q1] at v1
    have key := Lib.hid ((rgB_false (ro := ro) (co := co) (xs := xs)).2 fun hh => q1 ⟨hh.1, hh.2.1⟩)
    go_enter Tryz.func50, Tryz.ntmps50
    go_wp2_with (first | (go_at_call 64; (first | with_reducible refine (v1 _).mono ?_ | with_reducible refine (v2 _).mono ?_); rintro e w1 ⟨rfl, hb1⟩; replace hBa := hBa.trans (hb1.mono hBa.size); replace hD := hD.below hb1 hD.lt; clear hb1 hD_c0 hD_c1 hD_c2; have hD_c0 := hD.cell 0; have hD_c1 := hD.cell 1; have hD_c2 := hD.cell 2; simp only [List.getElem?_toArray, List.getElem?_cons_zero, List.getElem?_cons_succ] at hD_c0 hD_c1 hD_c2))
    go_ret
    exact ⟨ret_bool key.out.symm, hBa⟩

set_option maxHeartbeats 4000000 in
theorem irv_any (ro co : Int) (A : Option Addr) (n c : Nat) (xs : List Pk) (w : World) (h : Pks w w.heap.size A n xs) (hn : n ≤ 1099511627776) :
    Calls Tryz.prog 91 #[.agg #[.int .i64 ro, .int .i64 co, .slice A n c]] w fun e w' => e = .returned (.bool (rgB ro co xs)) ∧ Below w.heap.size w w' := by
  have HL := Lib.hid h.len
  have HV := Lib.hid (fun (w' : World) (hw : Below w.heap.size w w') => ips_any A n c xs w' ((h.below hw).more hw.size) hn)
  have hD := Bk.new w 34 #[.int .i64 ro, .int .i64 co, .slice A n c]
  have hBa : Below w.heap.size w (w.alloc (.cells #[.int .i64 ro, .int .i64 co, .slice A n c] 34)) := (Below.refl _ _).alloc (Nat.le_refl _) _
  have hmin := fun (w : World) (ts : Array TypeId) (t : TypeId) (x y : Int) => @run_min_plain Tryz.prog w ts t x y
  have v2 := fun w => wideV_any co w
  have hD_c0 := hD.cell 0
  have hD_c1 := hD.cell 1
  have hD_c2 := hD.cell 2
  clear h
  by_cases q0 : ro < 1
  · have d0 : decide (ro < 1) = true := by simpa using q0
    have key := Lib.hid ((rgB_false (ro := ro) (co := co) (xs := xs)).2 fun hh => by have := hh.1; omega)
    go_enter Tryz.func91, Tryz.ntmps91
    go_wp2
    go_ret
    exact ⟨ret_bool key.out.symm, hBa⟩
  have d0 : decide (ro < 1) = false := by simpa using q0
  by_cases q1 : 8 < ro
  · have d1 : decide (8 < ro) = true := by simpa using q1
    have key := Lib.hid ((rgB_false (ro := ro) (co := co) (xs := xs)).2 fun hh => by have := hh.2.1; omega)
    go_enter Tryz.func91, Tryz.ntmps91
    go_wp2
    go_ret
    exact ⟨ret_bool key.out.symm, hBa⟩
  have d1 : decide (8 < ro) = false := by simpa using q1
  by_cases q2 : 0 ≤ co ∧ co ≤ 999999
  · rw [show inB co 0 999999 = true from decide_eq_true q2] at v2
    by_cases q4 : (n : Int) = min ro co
    · have d4 : ((n : Int) == min ro co) = true := by simpa using q4
      by_cases q3 : psOk xs
      · have key := Lib.hid ((rgB_true (ro := ro) (co := co) (xs := xs)).2 ⟨by omega, by omega, q2.1, q2.2, q3, by rw [HL.out]; exact q4⟩)
        have HV' := Lib.hid (fun w' hw => by have := HV.out w' hw; rw [psB_true.2 q3] at this; exact this)
        clear q3 q4
        go_enter Tryz.func91, Tryz.ntmps91
        go_wp2_with (first | (go_at_call 93; refine (v2 _).mono ?_; rintro e w1 ⟨rfl, hb1⟩; replace hBa := hBa.trans (hb1.mono hBa.size); replace hD := hD.below hb1 hD.lt; clear hb1 hD_c0 hD_c1 hD_c2; have hD_c0 := hD.cell 0; have hD_c1 := hD.cell 1; have hD_c2 := hD.cell 2; simp only [List.getElem?_toArray, List.getElem?_cons_zero, List.getElem?_cons_succ] at hD_c0 hD_c1 hD_c2) | (go_at_call 102; refine (HV'.out _ hBa).mono ?_; rintro e w1 ⟨rfl, hb1⟩; replace hBa := hBa.trans (hb1.mono hBa.size); replace hD := hD.below hb1 hD.lt; clear hb1 hD_c0 hD_c1 hD_c2; have hD_c0 := hD.cell 0; have hD_c1 := hD.cell 1; have hD_c2 := hD.cell 2; simp only [List.getElem?_toArray, List.getElem?_cons_zero, List.getElem?_cons_succ] at hD_c0 hD_c1 hD_c2))
        go_ret
        exact ⟨ret_bool key.out.symm, hBa⟩
      · have key := Lib.hid ((rgB_false (ro := ro) (co := co) (xs := xs)).2 fun hh => q3 hh.2.2.2.2.1)
        have HV' := Lib.hid (fun w' hw => by have := HV.out w' hw; rw [psB_false.2 q3] at this; exact this)
        clear q3 q4
        go_enter Tryz.func91, Tryz.ntmps91
        go_wp2_with (first | (go_at_call 93; refine (v2 _).mono ?_; rintro e w1 ⟨rfl, hb1⟩; replace hBa := hBa.trans (hb1.mono hBa.size); replace hD := hD.below hb1 hD.lt; clear hb1 hD_c0 hD_c1 hD_c2; have hD_c0 := hD.cell 0; have hD_c1 := hD.cell 1; have hD_c2 := hD.cell 2; simp only [List.getElem?_toArray, List.getElem?_cons_zero, List.getElem?_cons_succ] at hD_c0 hD_c1 hD_c2) | (go_at_call 102; refine (HV'.out _ hBa).mono ?_; rintro e w1 ⟨rfl, hb1⟩; replace hBa := hBa.trans (hb1.mono hBa.size); replace hD := hD.below hb1 hD.lt; clear hb1 hD_c0 hD_c1 hD_c2; have hD_c0 := hD.cell 0; have hD_c1 := hD.cell 1; have hD_c2 := hD.cell 2; simp only [List.getElem?_toArray, List.getElem?_cons_zero, List.getElem?_cons_succ] at hD_c0 hD_c1 hD_c2))
        go_ret
        exact ⟨ret_bool key.out.symm, hBa⟩
    · have d4 : ((n : Int) == min ro co) = false := by simpa using q4
      have key := Lib.hid ((rgB_false (ro := ro) (co := co) (xs := xs)).2 fun hh => q4 (by rw [← HL.out]; exact hh.2.2.2.2.2))
      clear q4
      go_enter Tryz.func91, Tryz.ntmps91
      go_wp2_with (first | (go_at_call 93; refine (v2 _).mono ?_; rintro e w1 ⟨rfl, hb1⟩; replace hBa := hBa.trans (hb1.mono hBa.size); replace hD := hD.below hb1 hD.lt; clear hb1 hD_c0 hD_c1 hD_c2; have hD_c0 := hD.cell 0; have hD_c1 := hD.cell 1; have hD_c2 := hD.cell 2; simp only [List.getElem?_toArray, List.getElem?_cons_zero, List.getElem?_cons_succ] at hD_c0 hD_c1 hD_c2))
      go_ret
      exact ⟨ret_bool key.out.symm, hBa⟩
  · rw [show inB co 0 999999 = false from decide_eq_false q2] at v2
    have key := Lib.hid ((rgB_false (ro := ro) (co := co) (xs := xs)).2 fun hh => q2 ⟨hh.2.2.1, hh.2.2.2.1⟩)
    go_enter Tryz.func91, Tryz.ntmps91
    go_wp2_with (first | (go_at_call 93; refine (v2 _).mono ?_; rintro e w1 ⟨rfl, hb1⟩; replace hBa := hBa.trans (hb1.mono hBa.size); replace hD := hD.below hb1 hD.lt; clear hb1 hD_c0 hD_c1 hD_c2; have hD_c0 := hD.cell 0; have hD_c1 := hD.cell 1; have hD_c2 := hD.cell 2; simp only [List.getElem?_toArray, List.getElem?_cons_zero, List.getElem?_cons_succ] at hD_c0 hD_c1 hD_c2))
    go_ret
    exact ⟨ret_bool key.out.symm, hBa⟩
end Go.Proofs.YthbkmnladaneaaaGreatDoor
