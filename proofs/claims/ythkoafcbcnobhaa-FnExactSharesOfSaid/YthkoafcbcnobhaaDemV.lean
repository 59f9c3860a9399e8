/-
  Demands: both programs' DemandsValid.
  Conditions: as each theorem states them.
-/
import Derived.Test.YthkoafcbcnobhaaDem
namespace Go.Proofs.Ythkoafcbcnobhaa
open Go.RowKit
set_option linter.unusedVariables false
set_option linter.unusedSimpArgs false

/-- Are the first k demands valid? -/
def dTo (xs : List Dm) (k : Nat) : Prop := ∀ j x, j < k → xs[j]? = some x → dOk x
theorem dTo_zero (xs : List Dm) : dTo xs 0 := fun j x h => absurd h (by omega)
theorem dTo_succ {xs : List Dm} {k : Nat} {x : Dm} (h : dTo xs k) (hx : xs[k]? = some x) (hw : dOk x) : dTo xs (k + 1) := by
  intro j z hj hz
  by_cases e : j = k
  · subst e
    rw [hx] at hz
    injection hz with hz
    subst hz
    exact hw
  · exact h j z (by omega) hz
theorem lB_no {xs : List Dm} {k : Nat} {x : Dm} (hx : xs[k]? = some x) (h : ¬ dOk x) : lB xs = false :=
  decide_eq_false fun hp => h (hp.2 x (List.mem_of_getElem? hx))
theorem lB_end {xs : List Dm} {n : Nat} (h : dTo xs n) (hn : xs.length = n) : lB xs = decide (n ≤ 6) := by
  subst hn
  refine decide_eq_decide.2 ⟨fun hp => hp.1, fun hp => ⟨hp, fun x hx => ?_⟩⟩
  obtain ⟨j, hj⟩ := List.getElem?_of_mem hx
  exact h j x (List.getElem?_eq_some_iff.1 hj).1 hj

set_option maxHeartbeats 4000000 in
theorem sdv_any (A : Option Addr) (n c : Nat) (xs : List Dm) (w : World) (h : Dms w w.heap.size A n xs) (hn : n ≤ 1099511627776) :
    Calls Try.prog 48 #[.slice A n c] w fun e w' => e = .returned (.bool (lB xs)) ∧ Below w.heap.size w w' := by
  have HL := Lib.hid h.len
  go_enter Try.func48, Try.ntmps48
  go_wp2
  go_loopw [3] (fun i wr => ∃ k : Nat, k ≤ n ∧ i = .int .i64 k ∧ Hid (dTo xs k) ∧ Below w.heap.size w wr) (fun i _ => n - (intOf i).toNat)
  case atStart => exact ⟨0, by omega, rfl, dTo_zero xs, (by repeat (first | exact Below.refl _ _ | assumption | refine Below.setCell ?_ (by first | omega | (simp; done) | (simp; omega)) _ | refine Below.alloc ?_ (by first | omega | (simp; done) | (simp; omega)) _ | refine Below.drew ?_ | refine Below.drewN' ?_ _ | refine Below.trans ?_ (Below.mono (by assumption) (by first | omega | (simp; done) | (simp; omega)))))⟩
  case round =>
    obtain ⟨k, hk, rfl, hok, hB⟩ := hrel
    by_cases hlt : k < n
    · have e0 : decide (k < n) = true := by simpa using hlt
      obtain ⟨b, off, rfl, hb, hcell⟩ := h.addr (by omega)
      obtain ⟨x, hx⟩ : ∃ x, xs[k]? = some x := ⟨_, List.getElem?_eq_getElem (by rw [HL.out]; exact hlt)⟩
      obtain ⟨c0, c1, c2, c3⟩ := hcell k x hx
      replace c0 := (hB.cell (p := ⟨b, off + k * 4, none⟩) hb).trans c0
      replace c1 := (hB.cell (p := ⟨b, off + k * 4 + 1, none⟩) hb).trans c1
      replace c2 := (hB.cell (p := ⟨b, off + k * 4 + 2, none⟩) hb).trans c2
      replace c3 := (hB.cell (p := ⟨b, off + k * 4 + 3, none⟩) hb).trans c3
      have HX := Lib.hid hx
      have hs := hB.size
      have hbr : b < wr.heap.size := by omega
      clear hcell hx
      go_wp2_with fail
      have hD := Bk.new wr 46 #[.int .i64 x.we, .int .i64 x.lo, .int .i64 x.mi, .int .i64 x.hi]
      have hBa : Below w.heap.size w (wr.alloc (.cells #[.int .i64 x.we, .int .i64 x.lo, .int .i64 x.mi, .int .i64 x.hi] 46)) := hB.alloc hB.size _
      have hlw : wr.heap.size < (wr.alloc (.cells #[.int .i64 x.we, .int .i64 x.lo, .int .i64 x.mi, .int .i64 x.hi] 46)).heap.size := by simp
      have hwg : w.heap.size ≤ wr.heap.size := hs
      generalize (wr.alloc (.cells #[.int .i64 x.we, .int .i64 x.lo, .int .i64 x.mi, .int .i64 x.hi] 46)) = wa at hD hBa hlw ⊢
      generalize wr.heap.size = g at *
      clear c0 c1 c2 c3 hB hbr hs
      (try clear hD_c0); (try clear hD_f0)
      (try clear hD_c1); (try clear hD_f1)
      (try clear hD_c2); (try clear hD_f2)
      (try clear hD_c3); (try clear hD_f3)
      (try clear hD_lt)
      have hD_lt := hD.lt; (try simp only [World.size_alloc] at hD_lt)
      have hD_c0 := hD.cell 0; have hD_f0 := hD.frozen 0
      have hD_c1 := hD.cell 1; have hD_f1 := hD.frozen 1
      have hD_c2 := hD.cell 2; have hD_f2 := hD.frozen 2
      have hD_c3 := hD.cell 3; have hD_f3 := hD.frozen 3
      simp only [List.getElem?_toArray, List.getElem?_cons_zero, List.getElem?_cons_succ] at hD_c0 hD_c1 hD_c2 hD_c3
      have v1 := fun w => l6In_any x.we 0 9 w
      by_cases q1 : 0 ≤ x.we ∧ x.we ≤ 9
      · rw [show inB x.we 0 9 = true from decide_eq_true q1] at v1
        have v2 := fun w => l6In_any x.lo 1 9999 w
        by_cases q2 : 1 ≤ x.lo ∧ x.lo ≤ 9999
        · rw [show inB x.lo 1 9999 = true from decide_eq_true q2] at v2
          have v3 := fun w => l6In_any x.mi (x.lo + 1) 9999 w
          by_cases q3 : x.lo + 1 ≤ x.mi ∧ x.mi ≤ 9999
          · rw [show inB x.mi (x.lo + 1) 9999 = true from decide_eq_true q3] at v3
            have v4 := fun w => l6In_any x.hi (x.mi + 1) 9999 w
            by_cases q4 : x.mi + 1 ≤ x.hi ∧ x.hi ≤ 9999
            · rw [show inB x.hi (x.mi + 1) 9999 = true from decide_eq_true q4] at v4
              go_wp2_with (go_at_call 40; (first | with_reducible refine (v1 _).mono ?_ | with_reducible refine (v2 _).mono ?_ | with_reducible refine (v3 _).mono ?_ | with_reducible refine (v4 _).mono ?_); rintro e w1 ⟨rfl, hb1⟩; replace hBa := hBa.trans (hb1.mono hBa.size); replace hD := hD.below hb1 hD.lt; clear hb1 hD_c0 hD_c1 hD_c2 hD_c3; have hD_c0 := hD.cell 0; have hD_c1 := hD.cell 1; have hD_c2 := hD.cell 2; have hD_c3 := hD.cell 3; simp only [List.getElem?_toArray, List.getElem?_cons_zero, List.getElem?_cons_succ] at hD_c0 hD_c1 hD_c2 hD_c3)
              have hnx := Lib.hid (dTo_succ hok.out HX.out (by unfold dOk; omega))
              go_roundw
              case rel => exact ⟨k + 1, by omega, by go_num, hnx.out, hBa⟩
              case measure => simp [intOf]; omega
            · rw [show inB x.hi (x.mi + 1) 9999 = false from decide_eq_false q4] at v4
              go_wp2_with (go_at_call 40; (first | with_reducible refine (v1 _).mono ?_ | with_reducible refine (v2 _).mono ?_ | with_reducible refine (v3 _).mono ?_ | with_reducible refine (v4 _).mono ?_); rintro e w1 ⟨rfl, hb1⟩; replace hBa := hBa.trans (hb1.mono hBa.size); replace hD := hD.below hb1 hD.lt; clear hb1 hD_c0 hD_c1 hD_c2 hD_c3; have hD_c0 := hD.cell 0; have hD_c1 := hD.cell 1; have hD_c2 := hD.cell 2; have hD_c3 := hD.cell 3; simp only [List.getElem?_toArray, List.getElem?_cons_zero, List.getElem?_cons_succ] at hD_c0 hD_c1 hD_c2 hD_c3)
              have hno := Lib.hid (lB_no HX.out (by unfold dOk; omega))
              go_ret
              exact ⟨ret_bool hno.out.symm, hBa⟩
          · rw [show inB x.mi (x.lo + 1) 9999 = false from decide_eq_false q3] at v3
            go_wp2_with (go_at_call 40; (first | with_reducible refine (v1 _).mono ?_ | with_reducible refine (v2 _).mono ?_ | with_reducible refine (v3 _).mono ?_); rintro e w1 ⟨rfl, hb1⟩; replace hBa := hBa.trans (hb1.mono hBa.size); replace hD := hD.below hb1 hD.lt; clear hb1 hD_c0 hD_c1 hD_c2 hD_c3; have hD_c0 := hD.cell 0; have hD_c1 := hD.cell 1; have hD_c2 := hD.cell 2; have hD_c3 := hD.cell 3; simp only [List.getElem?_toArray, List.getElem?_cons_zero, List.getElem?_cons_succ] at hD_c0 hD_c1 hD_c2 hD_c3)
            have hno := Lib.hid (lB_no HX.out (by unfold dOk; omega))
            go_ret
            exact ⟨ret_bool hno.out.symm, hBa⟩
        · rw [show inB x.lo 1 9999 = false from decide_eq_false q2] at v2
          go_wp2_with (go_at_call 40; (first | with_reducible refine (v1 _).mono ?_ | with_reducible refine (v2 _).mono ?_); rintro e w1 ⟨rfl, hb1⟩; replace hBa := hBa.trans (hb1.mono hBa.size); replace hD := hD.below hb1 hD.lt; clear hb1 hD_c0 hD_c1 hD_c2 hD_c3; have hD_c0 := hD.cell 0; have hD_c1 := hD.cell 1; have hD_c2 := hD.cell 2; have hD_c3 := hD.cell 3; simp only [List.getElem?_toArray, List.getElem?_cons_zero, List.getElem?_cons_succ] at hD_c0 hD_c1 hD_c2 hD_c3)
          have hno := Lib.hid (lB_no HX.out (by unfold dOk; omega))
          go_ret
          exact ⟨ret_bool hno.out.symm, hBa⟩
      · rw [show inB x.we 0 9 = false from decide_eq_false q1] at v1
        go_wp2_with (go_at_call 40; (first | with_reducible refine (v1 _).mono ?_); rintro e w1 ⟨rfl, hb1⟩; replace hBa := hBa.trans (hb1.mono hBa.size); replace hD := hD.below hb1 hD.lt; clear hb1 hD_c0 hD_c1 hD_c2 hD_c3; have hD_c0 := hD.cell 0; have hD_c1 := hD.cell 1; have hD_c2 := hD.cell 2; have hD_c3 := hD.cell 3; simp only [List.getElem?_toArray, List.getElem?_cons_zero, List.getElem?_cons_succ] at hD_c0 hD_c1 hD_c2 hD_c3)
        have hno := Lib.hid (lB_no HX.out (by unfold dOk; omega))
        go_ret
        exact ⟨ret_bool hno.out.symm, hBa⟩
    · have hkn : k = n := by omega
      subst hkn
      have key := Lib.hid (lB_end hok.out HL.out)
      go_wp2
      all_goals
        go_ret
        exact ⟨ret_bool (by rw [key.out]; first | exact decide_eq_decide.2 (by omega) | exact (decide_eq_false (by omega)).symm | exact (decide_eq_true (by omega)).symm), hB⟩

set_option maxHeartbeats 4000000 in
theorem idv_any (A : Option Addr) (n c : Nat) (xs : List Dm) (w : World) (h : Dms w w.heap.size A n xs) (hn : n ≤ 1099511627776) :
    Calls Try.prog 34 #[.slice A n c] w fun e w' => e = .returned (.bool (lB xs)) ∧ Below w.heap.size w w' := by
  have HL := Lib.hid h.len
  by_cases hpre : n ≤ 6
  · have d5 : decide (6 < n) = false := by simp; omega
    go_enter Try.func34, Try.ntmps34
    go_wp2
    go_loopw [10] (fun i wr => ∃ k : Nat, k ≤ n ∧ i = .int .i64 k ∧ Hid (dTo xs k) ∧ Below w.heap.size w wr) (fun i _ => n - (intOf i).toNat)
    case atStart => exact ⟨0, by omega, rfl, dTo_zero xs, (by repeat (first | exact Below.refl _ _ | assumption | refine Below.setCell ?_ (by first | omega | (simp; done) | (simp; omega)) _ | refine Below.alloc ?_ (by first | omega | (simp; done) | (simp; omega)) _ | refine Below.drew ?_ | refine Below.drewN' ?_ _ | refine Below.trans ?_ (Below.mono (by assumption) (by first | omega | (simp; done) | (simp; omega)))))⟩
    case round =>
      obtain ⟨k, hk, rfl, hok, hB⟩ := hrel
      by_cases hlt : k < n
      · have e0 : decide (k < n) = true := by simpa using hlt
        obtain ⟨b, off, rfl, hb, hcell⟩ := h.addr (by omega)
        obtain ⟨x, hx⟩ : ∃ x, xs[k]? = some x := ⟨_, List.getElem?_eq_getElem (by rw [HL.out]; exact hlt)⟩
        obtain ⟨c0, c1, c2, c3⟩ := hcell k x hx
        replace c0 := (hB.cell (p := ⟨b, off + k * 4, none⟩) hb).trans c0
        replace c1 := (hB.cell (p := ⟨b, off + k * 4 + 1, none⟩) hb).trans c1
        replace c2 := (hB.cell (p := ⟨b, off + k * 4 + 2, none⟩) hb).trans c2
        replace c3 := (hB.cell (p := ⟨b, off + k * 4 + 3, none⟩) hb).trans c3
        have HX := Lib.hid hx
        have hs := hB.size
        have hbr : b < wr.heap.size := by omega
        clear hcell hx
        have hv := fun w => dvalid_any x w
        by_cases q : dOk x
        · rw [show dB x = true from decide_eq_true q] at hv
          have hnx := Lib.hid (dTo_succ hok.out HX.out q)
          go_wp2_with (go_at_call 50; refine (hv _).mono ?_; rintro e w1 ⟨rfl, hb1⟩)
          go_roundw
          case rel => exact ⟨k + 1, by omega, by go_num, hnx.out, (hB.alloc hs _).trans (hb1.mono (by simp; omega))⟩
          case measure => simp [intOf]; omega
        · rw [show dB x = false from decide_eq_false q] at hv
          have hno := Lib.hid (lB_no HX.out q)
          go_wp2_with (go_at_call 50; refine (hv _).mono ?_; rintro e w1 ⟨rfl, hb1⟩)
          go_ret
          exact ⟨ret_bool hno.out.symm, (hB.alloc hs _).trans (hb1.mono (by simp; omega))⟩
      · have hkn : k = n := by omega
        subst hkn
        have key := Lib.hid (lB_end hok.out HL.out)
        go_wp2
        go_ret
        exact ⟨ret_bool (by rw [key.out]; exact (decide_eq_true hpre).symm), hB⟩
  · go_enter Try.func34, Try.ntmps34
    go_wp2
    all_goals
      go_ret
      exact ⟨ret_bool (decide_eq_false fun hp => hpre (by rw [← HL.out]; exact hp.1)).symm, (by repeat (first | exact Below.refl _ _ | assumption | refine Below.setCell ?_ (by first | omega | (simp; done) | (simp; omega)) _ | refine Below.alloc ?_ (by first | omega | (simp; done) | (simp; omega)) _ | refine Below.drew ?_ | refine Below.drewN' ?_ _ | refine Below.trans ?_ (Below.mono (by assumption) (by first | omega | (simp; done) | (simp; omega)))))⟩
end Go.Proofs.Ythkoafcbcnobhaa
