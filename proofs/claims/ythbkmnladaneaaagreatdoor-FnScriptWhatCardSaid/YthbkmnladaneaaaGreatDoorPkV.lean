/-
  Packets: what is valid; both programs' PacketValid and PacketsValid.
  Conditions: as each theorem states them.
-/
import Derived.Test.YthbkmnladaneaaaGreatDoorRows
import Derived.Test.YthbkmnladaneaaaGreatDoorLib
import Derived.Test.YthbkmnladaneaaaGreatDoorOwn
import Derived.Test.YthbkmnladaneaaaGreatDoorBasP
import Derived.Outline
namespace Go.Proofs.YthbkmnladaneaaaGreatDoor
open Go.RowKit
set_option linter.unusedVariables false
set_option linter.unusedSimpArgs false

def pkOk (x : Pk) : Prop := 0 ≤ x.wi ∧ x.wi ≤ 999999 ∧ 0 ≤ x.ti ∧ x.ti ≤ 99999 ∧ 0 ≤ x.la ∧ x.la ≤ 2 ∧ 1 ≤ x.si ∧ x.si ≤ 1500
instance (x : Pk) : Decidable (pkOk x) := by unfold pkOk; infer_instance
def pkB (x : Pk) : Bool := decide (pkOk x)

set_option maxHeartbeats 2000000 in
theorem spk_any (x : Pk) (w : World) : Calls Tryz.prog 85 #[.agg #[.int .i64 x.wi, .int .i64 x.ti, .int .i64 x.la, .int .i64 x.si, .bool x.ky, .bool x.en]] w fun e w' => e = .returned (.bool (pkB x)) ∧ Below w.heap.size w w' := by
  go_enter Tryz.func85, Tryz.ntmps85
  go_wp2_with go_in
  all_goals
    go_ret
    exact ⟨ret_bool (by ((try simp only [decide_eq_true_eq, decide_eq_false_iff_not, Bool.not_eq_true', Bool.not_eq_false'] at *); unfold pkB pkOk; first | exact decide_eq_decide.2 (by omega) | exact (decide_eq_false (by omega)).symm | exact (decide_eq_true (by omega)).symm)), (by repeat (first | exact Below.refl _ _ | assumption | refine Below.setCell ?_ (by first | omega | (simp; done) | (simp; omega)) _ | refine Below.alloc ?_ (by first | omega | (simp; done) | (simp; omega)) _ | refine Below.drew ?_ | refine Below.drewN' ?_ _ | refine Below.trans ?_ (Below.mono (by assumption) (by first | omega | (simp; done) | (simp; omega)))))⟩
set_option maxHeartbeats 2000000 in
theorem ipk_any (x : Pk) (w : World) : Calls Tryz.prog 101 #[.agg #[.int .i64 x.wi, .int .i64 x.ti, .int .i64 x.la, .int .i64 x.si, .bool x.ky, .bool x.en]] w fun e w' => e = .returned (.bool (pkB x)) ∧ Below w.heap.size w w' := by
  go_enter Tryz.func101, Tryz.ntmps101
  go_wp2_with go_in
  all_goals
    go_ret
    exact ⟨ret_bool (by ((try simp only [decide_eq_true_eq, decide_eq_false_iff_not, Bool.not_eq_true', Bool.not_eq_false'] at *); unfold pkB pkOk; first | exact decide_eq_decide.2 (by omega) | exact (decide_eq_false (by omega)).symm | exact (decide_eq_true (by omega)).symm)), (by repeat (first | exact Below.refl _ _ | assumption | refine Below.setCell ?_ (by first | omega | (simp; done) | (simp; omega)) _ | refine Below.alloc ?_ (by first | omega | (simp; done) | (simp; omega)) _ | refine Below.drew ?_ | refine Below.drewN' ?_ _ | refine Below.trans ?_ (Below.mono (by assumption) (by first | omega | (simp; done) | (simp; omega)))))⟩

/-- Does y stand ahead of x in a list? -/
def pkLt (y x : Pk) : Prop := y.wi < x.wi ∧ y.ti ≤ x.ti
/-- Are the first k packets valid, and do they ascend? -/
def pTo (xs : List Pk) (k : Nat) : Prop := ∀ j x, j < k → xs[j]? = some x → pkOk x ∧ ∀ y, 0 < j → xs[j - 1]? = some y → pkLt y x
theorem pTo_zero (xs : List Pk) : pTo xs 0 := fun j x h => absurd h (by omega)
theorem pTo_succ {xs : List Pk} {k : Nat} {x : Pk} (h : pTo xs k) (hx : xs[k]? = some x) (hw : pkOk x) (hy : ∀ y, 0 < k → xs[k - 1]? = some y → pkLt y x) : pTo xs (k + 1) := by
  intro j z hj hz
  by_cases e : j = k
  · subst e
    rw [hx] at hz
    injection hz with hz
    subst hz
    exact ⟨hw, hy⟩
  · exact h j z (by omega) hz
def psOk (xs : List Pk) : Prop := xs.length ≤ 20 ∧ pTo xs xs.length
noncomputable def psB (xs : List Pk) : Bool := @decide (psOk xs) (Classical.propDecidable _)
theorem psB_true {xs : List Pk} : psB xs = true ↔ psOk xs := by unfold psB; exact @decide_eq_true_iff _ (Classical.propDecidable _)
theorem psB_false {xs : List Pk} : psB xs = false ↔ ¬ psOk xs := by unfold psB; exact @decide_eq_false_iff_not _ (Classical.propDecidable _)
theorem psB_no {xs : List Pk} {k : Nat} {x : Pk} (hx : xs[k]? = some x) (h : ¬ (pkOk x ∧ ∀ y, 0 < k → xs[k - 1]? = some y → pkLt y x)) : psB xs = false :=
  psB_false.2 fun hp => h (hp.2 k x (List.getElem?_eq_some_iff.1 hx).1 hx)
theorem psB_end {xs : List Pk} {n : Nat} (h : pTo xs n) (hn : xs.length = n) : psB xs = decide (n ≤ 20) := by
  subst hn
  by_cases hh : xs.length ≤ 20
  · rw [decide_eq_true hh]; exact psB_true.2 ⟨hh, h⟩
  · rw [decide_eq_false hh]; exact psB_false.2 fun hp => hh hp.1


set_option maxHeartbeats 8000000 in
theorem sps_any (A : Option Addr) (n c : Nat) (xs : List Pk) (w : World) (h : Pks w w.heap.size A n xs) (hn : n ≤ 1099511627776) :
    Calls Tryz.prog 65 #[.slice A n c] w fun e w' => e = .returned (.bool (psB xs)) ∧ Below w.heap.size w w' := by
  have HL := Lib.hid h.len
  go_enter Tryz.func65, Tryz.ntmps65
  go_wp2
  go_loopw [3] (fun i wr => ∃ k : Nat, k ≤ n ∧ i = .int .i64 k ∧ Hid (pTo xs k) ∧ Below w.heap.size w wr) (fun i _ => n - (intOf i).toNat)
  case atStart => exact ⟨0, by omega, rfl, pTo_zero xs, (by repeat (first | exact Below.refl _ _ | assumption | refine Below.setCell ?_ (by first | omega | (simp; done) | (simp; omega)) _ | refine Below.alloc ?_ (by first | omega | (simp; done) | (simp; omega)) _ | refine Below.drew ?_ | refine Below.drewN' ?_ _ | refine Below.trans ?_ (Below.mono (by assumption) (by first | omega | (simp; done) | (simp; omega)))))⟩
  case round =>
    obtain ⟨k, hk, rfl, hok, hB⟩ := hrel
    have hs := hB.size
    by_cases hlt : k < n
    · have e0 : decide (k < n) = true := by simpa using hlt
      obtain ⟨b, off, rfl, hb, hcell⟩ := h.addr (by omega)
      obtain ⟨x, hx⟩ : ∃ x, xs[k]? = some x := ⟨_, List.getElem?_eq_getElem (by rw [HL.out]; exact hlt)⟩
      obtain ⟨c0, c1, c2, c3, c4, c5⟩ := hcell k x hx
      replace c0 := (hB.cell (p := ⟨b, off + k * 6, none⟩) hb).trans c0
      replace c1 := (hB.cell (p := ⟨b, off + k * 6 + 1, none⟩) hb).trans c1
      replace c2 := (hB.cell (p := ⟨b, off + k * 6 + 2, none⟩) hb).trans c2
      replace c3 := (hB.cell (p := ⟨b, off + k * 6 + 3, none⟩) hb).trans c3
      replace c4 := (hB.cell (p := ⟨b, off + k * 6 + 4, none⟩) hb).trans c4
      replace c5 := (hB.cell (p := ⟨b, off + k * 6 + 5, none⟩) hb).trans c5
      have HC := Lib.hid hcell
      have HX := Lib.hid hx
      have hbr : b < wr.heap.size := by omega
      clear hcell hx
      have hv := fun w => spk_any x w
      by_cases q : pkOk x
      · rw [show pkB x = true from decide_eq_true q] at hv
        rcases k with _ | j
        · simp only [Nat.zero_mul, Nat.add_zero, Nat.zero_add] at c0 c1 c2 c3 c4 c5
          have hnx := Lib.hid (pTo_succ hok.out HX.out q (fun y h0 => absurd h0 (by omega)))
          go_wp2_with fail
          refine wp_region_cells [(b, off, .int .i64 x.wi), (b, off + 1, .int .i64 x.ti), (b, off + 2, .int .i64 x.la), (b, off + 3, .int .i64 x.si), (b, off + 4, .bool x.ky), (b, off + 5, .bool x.en)] (by kernel_rfl) (by kernel_rfl) ?_ ?_
          · simp only [List.forall_mem_cons]
            exact ⟨by go_simp, by go_simp, by go_simp, by go_simp, by go_simp, by go_simp, by simp⟩
          intro hcs
          simp only [List.forall_mem_cons] at hcs
          obtain ⟨dc0, dc1, dc2, dc3, dc4, dc5, -⟩ := hcs
          repeat (any_goals (first | go_big_quiet_step (first | (go_at_call 85; exact BW.calls (Nat.le_refl _) _ (hv _))) | quiet_step (first | (go_at_call 85; exact BW.calls (Nat.le_refl _) _ (hv _)))))
          refine wpQuiet_nil ?_
          intro _ hw'
          obtain ⟨xw, hw''⟩ := hw'
          subst hw''
          have hbw := xw.2
          clear dc0 dc1 dc2 dc3 dc4 dc5
          generalize xw.1 = ww at hbw ⊢
          clear xw
          obtain ⟨kw, fw⟩ := bcell hbw
          have sw := hbw.size
          have hB2 := hB.trans (hbw.mono hs)
          go_wp2
          go_roundw
          case rel => exact ⟨1, by omega, rfl, hnx.out, hB2⟩
          case measure => simp [intOf]; omega
        · obtain ⟨y, hy⟩ : ∃ y, xs[j]? = some y := ⟨_, List.getElem?_eq_getElem (by rw [HL.out]; omega)⟩
          obtain ⟨d0, d1, -, -, -, -⟩ := HC.out j y hy
          replace d0 := (hB.cell (p := ⟨b, off + j * 6, none⟩) hb).trans d0
          replace d1 := (hB.cell (p := ⟨b, off + j * 6 + 1, none⟩) hb).trans d1
          have HY := Lib.hid hy
          clear hy
          have g0 : decide (0 < (j : Int) + 1) = true := by first | (simp; done) | (simp; omega)
          by_cases hw1 : x.wi ≤ y.wi
          · have g1 : decide (x.wi ≤ y.wi) = true := by simpa using hw1
            go_wp2_with fail
            refine wp_region_cells [(b, off + (j + 1) * 6, .int .i64 x.wi), (b, off + (j + 1) * 6 + 1, .int .i64 x.ti), (b, off + (j + 1) * 6 + 2, .int .i64 x.la), (b, off + (j + 1) * 6 + 3, .int .i64 x.si), (b, off + (j + 1) * 6 + 4, .bool x.ky), (b, off + (j + 1) * 6 + 5, .bool x.en), (b, off + j * 6, .int .i64 y.wi), (b, off + j * 6 + 1, .int .i64 y.ti)] (by kernel_rfl) (by kernel_rfl) ?_ ?_
            · simp only [List.forall_mem_cons]
              exact ⟨by go_simp, by go_simp, by go_simp, by go_simp, by go_simp, by go_simp, by go_simp, by go_simp, by simp⟩
            intro hcs
            simp only [List.forall_mem_cons] at hcs
            obtain ⟨dc0, dc1, dc2, dc3, dc4, dc5, dc6, dc7, -⟩ := hcs
            repeat (any_goals (first | go_big_quiet_step (first | (go_at_call 85; exact BW.calls (Nat.le_refl _) _ (hv _))) | quiet_step (first | (go_at_call 85; exact BW.calls (Nat.le_refl _) _ (hv _)))))
            refine wpQuiet_nil ?_
            intro _ hw'
            obtain ⟨xw, hw''⟩ := hw'
            subst hw''
            have hbw := xw.2
            clear dc0 dc1 dc2 dc3 dc4 dc5 dc6 dc7
            generalize xw.1 = ww at hbw ⊢
            clear xw
            obtain ⟨kw, fw⟩ := bcell hbw
            have sw := hbw.size
            have hB2 := hB.trans (hbw.mono hs)
            have hno := Lib.hid (psB_no HX.out fun hp => by have := (hp.2 y (by omega) HY.out).1; omega)
            go_wp2
            go_ret
            exact ⟨ret_bool hno.out.symm, hB2⟩
          have g1 : decide (x.wi ≤ y.wi) = false := by simpa using hw1
          by_cases hw2 : x.ti < y.ti
          · have g2 : decide (x.ti < y.ti) = true := by simpa using hw2
            go_wp2_with fail
            refine wp_region_cells [(b, off + (j + 1) * 6, .int .i64 x.wi), (b, off + (j + 1) * 6 + 1, .int .i64 x.ti), (b, off + (j + 1) * 6 + 2, .int .i64 x.la), (b, off + (j + 1) * 6 + 3, .int .i64 x.si), (b, off + (j + 1) * 6 + 4, .bool x.ky), (b, off + (j + 1) * 6 + 5, .bool x.en), (b, off + j * 6, .int .i64 y.wi), (b, off + j * 6 + 1, .int .i64 y.ti)] (by kernel_rfl) (by kernel_rfl) ?_ ?_
            · simp only [List.forall_mem_cons]
              exact ⟨by go_simp, by go_simp, by go_simp, by go_simp, by go_simp, by go_simp, by go_simp, by go_simp, by simp⟩
            intro hcs
            simp only [List.forall_mem_cons] at hcs
            obtain ⟨dc0, dc1, dc2, dc3, dc4, dc5, dc6, dc7, -⟩ := hcs
            repeat (any_goals (first | go_big_quiet_step (first | (go_at_call 85; exact BW.calls (Nat.le_refl _) _ (hv _))) | quiet_step (first | (go_at_call 85; exact BW.calls (Nat.le_refl _) _ (hv _)))))
            refine wpQuiet_nil ?_
            intro _ hw'
            obtain ⟨xw, hw''⟩ := hw'
            subst hw''
            have hbw := xw.2
            clear dc0 dc1 dc2 dc3 dc4 dc5 dc6 dc7
            generalize xw.1 = ww at hbw ⊢
            clear xw
            obtain ⟨kw, fw⟩ := bcell hbw
            have sw := hbw.size
            have hB2 := hB.trans (hbw.mono hs)
            have hno := Lib.hid (psB_no HX.out fun hp => by have := (hp.2 y (by omega) HY.out).2; omega)
            go_wp2
            go_ret
            exact ⟨ret_bool hno.out.symm, hB2⟩
          have g2 : decide (x.ti < y.ti) = false := by simpa using hw2
          have hnx := Lib.hid (pTo_succ hok.out HX.out q (fun z _ hz => by
            have hz' : xs[j]? = some z := hz
            rw [HY.out] at hz'
            injection hz' with hz'
            subst hz'
            exact ⟨by omega, by omega⟩))
          go_wp2_with fail
          refine wp_region_cells [(b, off + (j + 1) * 6, .int .i64 x.wi), (b, off + (j + 1) * 6 + 1, .int .i64 x.ti), (b, off + (j + 1) * 6 + 2, .int .i64 x.la), (b, off + (j + 1) * 6 + 3, .int .i64 x.si), (b, off + (j + 1) * 6 + 4, .bool x.ky), (b, off + (j + 1) * 6 + 5, .bool x.en), (b, off + j * 6, .int .i64 y.wi), (b, off + j * 6 + 1, .int .i64 y.ti)] (by kernel_rfl) (by kernel_rfl) ?_ ?_
          · simp only [List.forall_mem_cons]
            exact ⟨by go_simp, by go_simp, by go_simp, by go_simp, by go_simp, by go_simp, by go_simp, by go_simp, by simp⟩
          intro hcs
          simp only [List.forall_mem_cons] at hcs
          obtain ⟨dc0, dc1, dc2, dc3, dc4, dc5, dc6, dc7, -⟩ := hcs
          repeat (any_goals (first | go_big_quiet_step (first | (go_at_call 85; exact BW.calls (Nat.le_refl _) _ (hv _))) | quiet_step (first | (go_at_call 85; exact BW.calls (Nat.le_refl _) _ (hv _)))))
          refine wpQuiet_nil ?_
          intro _ hw'
          obtain ⟨xw, hw''⟩ := hw'
          subst hw''
          have hbw := xw.2
          clear dc0 dc1 dc2 dc3 dc4 dc5 dc6 dc7
          generalize xw.1 = ww at hbw ⊢
          clear xw
          obtain ⟨kw, fw⟩ := bcell hbw
          have sw := hbw.size
          have hB2 := hB.trans (hbw.mono hs)
          go_wp2
          go_roundw
          case rel => exact ⟨j + 2, by omega, by go_num, hnx.out, hB2⟩
          case measure => simp [intOf]; omega
      · rw [show pkB x = false from decide_eq_false q] at hv
        have hno := Lib.hid (psB_no HX.out fun hp => q hp.1)
        go_wp2_with fail
        refine wp_region_cells [(b, off + k * 6, .int .i64 x.wi), (b, off + k * 6 + 1, .int .i64 x.ti), (b, off + k * 6 + 2, .int .i64 x.la), (b, off + k * 6 + 3, .int .i64 x.si), (b, off + k * 6 + 4, .bool x.ky), (b, off + k * 6 + 5, .bool x.en)] (by kernel_rfl) (by kernel_rfl) ?_ ?_
        · simp only [List.forall_mem_cons]
          exact ⟨by go_simp, by go_simp, by go_simp, by go_simp, by go_simp, by go_simp, by simp⟩
        intro hcs
        simp only [List.forall_mem_cons] at hcs
        obtain ⟨dc0, dc1, dc2, dc3, dc4, dc5, -⟩ := hcs
        repeat (any_goals (first | go_big_quiet_step (first | (go_at_call 85; exact BW.calls (Nat.le_refl _) _ (hv _))) | quiet_step (first | (go_at_call 85; exact BW.calls (Nat.le_refl _) _ (hv _)))))
        refine wpQuiet_nil ?_
        intro _ hw'
        obtain ⟨xw, hw''⟩ := hw'
        subst hw''
        have hbw := xw.2
        clear dc0 dc1 dc2 dc3 dc4 dc5
        generalize xw.1 = ww at hbw ⊢
        clear xw
        obtain ⟨kw, fw⟩ := bcell hbw
        have sw := hbw.size
        have hB2 := hB.trans (hbw.mono hs)
        go_wp2
        go_ret
        exact ⟨ret_bool hno.out.symm, hB2⟩
    · have hkn : k = n := by omega
      subst hkn
      have key := Lib.hid (psB_end hok.out HL.out)
      go_wp2
      all_goals
        go_ret
        exact ⟨ret_bool (by rw [key.out]; first | exact decide_eq_decide.2 (by omega) | exact (decide_eq_false (by omega)).symm | exact (decide_eq_true (by omega)).symm), hB⟩

set_option maxHeartbeats 8000000 in
theorem ips_any (A : Option Addr) (n c : Nat) (xs : List Pk) (w : World) (h : Pks w w.heap.size A n xs) (hn : n ≤ 1099511627776) :
    Calls Tryz.prog 102 #[.slice A n c] w fun e w' => e = .returned (.bool (psB xs)) ∧ Below w.heap.size w w' := by
  have HL := Lib.hid h.len
  by_cases hpre : 20 < n
  · have d5 : decide (20 < n) = true := by simpa using hpre
    go_enter Tryz.func102, Tryz.ntmps102
    go_wp2
    go_ret
    exact ⟨ret_bool (psB_false.2 fun hp => by have := hp.1; rw [HL.out] at this; omega).symm, (by repeat (first | exact Below.refl _ _ | assumption | refine Below.setCell ?_ (by first | omega | (simp; done) | (simp; omega)) _ | refine Below.alloc ?_ (by first | omega | (simp; done) | (simp; omega)) _ | refine Below.drew ?_ | refine Below.drewN' ?_ _ | refine Below.trans ?_ (Below.mono (by assumption) (by first | omega | (simp; done) | (simp; omega)))))⟩
  have d5 : decide (20 < n) = false := by simpa using hpre
  go_enter Tryz.func102, Tryz.ntmps102
  go_wp2
  go_loopw [10] (fun i wr => ∃ k : Nat, k ≤ n ∧ i = .int .i64 k ∧ Hid (pTo xs k) ∧ Below w.heap.size w wr) (fun i _ => n - (intOf i).toNat)
  case atStart => exact ⟨0, by omega, rfl, pTo_zero xs, (by repeat (first | exact Below.refl _ _ | assumption | refine Below.setCell ?_ (by first | omega | (simp; done) | (simp; omega)) _ | refine Below.alloc ?_ (by first | omega | (simp; done) | (simp; omega)) _ | refine Below.drew ?_ | refine Below.drewN' ?_ _ | refine Below.trans ?_ (Below.mono (by assumption) (by first | omega | (simp; done) | (simp; omega)))))⟩
  case round =>
    obtain ⟨k, hk, rfl, hok, hB⟩ := hrel
    have hs := hB.size
    by_cases hlt : k < n
    · have e0 : decide (k < n) = true := by simpa using hlt
      obtain ⟨b, off, rfl, hb, hcell⟩ := h.addr (by omega)
      obtain ⟨x, hx⟩ : ∃ x, xs[k]? = some x := ⟨_, List.getElem?_eq_getElem (by rw [HL.out]; exact hlt)⟩
      obtain ⟨c0, c1, c2, c3, c4, c5⟩ := hcell k x hx
      replace c0 := (hB.cell (p := ⟨b, off + k * 6, none⟩) hb).trans c0
      replace c1 := (hB.cell (p := ⟨b, off + k * 6 + 1, none⟩) hb).trans c1
      replace c2 := (hB.cell (p := ⟨b, off + k * 6 + 2, none⟩) hb).trans c2
      replace c3 := (hB.cell (p := ⟨b, off + k * 6 + 3, none⟩) hb).trans c3
      replace c4 := (hB.cell (p := ⟨b, off + k * 6 + 4, none⟩) hb).trans c4
      replace c5 := (hB.cell (p := ⟨b, off + k * 6 + 5, none⟩) hb).trans c5
      have HC := Lib.hid hcell
      have HX := Lib.hid hx
      have hbr : b < wr.heap.size := by omega
      clear hcell hx
      have hv := fun w => ipk_any x w
      have hD := Bk.new wr 81 #[.int .i64 x.wi, .int .i64 x.ti, .int .i64 x.la, .int .i64 x.si, .bool x.ky, .bool x.en]
      have hBa : Below wr.heap.size wr (wr.alloc (.cells #[.int .i64 x.wi, .int .i64 x.ti, .int .i64 x.la, .int .i64 x.si, .bool x.ky, .bool x.en] 81)) := (Below.refl _ _).alloc (Nat.le_refl _) _
      have hDl : wr.heap.size < (wr.alloc (.cells #[.int .i64 x.wi, .int .i64 x.ti, .int .i64 x.la, .int .i64 x.si, .bool x.ky, .bool x.en] 81)).heap.size := by simp
      by_cases q : pkOk x
      · rw [show pkB x = true from decide_eq_true q] at hv
        rcases k with _ | j
        · simp only [Nat.zero_mul, Nat.add_zero, Nat.zero_add] at c0 c1 c2 c3 c4 c5
          have hnx := Lib.hid (pTo_succ hok.out HX.out q (fun y h0 => absurd h0 (by omega)))
          go_wp2_with (first | (go_at_call 101; refine (hv _).mono ?_; rintro e w1 ⟨rfl, hb1⟩))
          (try (go_quiet (fail); go_wp2))
          go_roundw
          case rel => exact ⟨1, by omega, rfl, hnx.out, Below.drewN' (hB.trans ((hBa.trans (hb1.mono hBa.size)).mono hs)) _⟩
          case measure => simp [intOf]; omega
        · obtain ⟨y, hy⟩ : ∃ y, xs[j]? = some y := ⟨_, List.getElem?_eq_getElem (by rw [HL.out]; omega)⟩
          obtain ⟨d0, d1, -, -, -, -⟩ := HC.out j y hy
          replace d0 := (hB.cell (p := ⟨b, off + j * 6, none⟩) hb).trans d0
          replace d1 := (hB.cell (p := ⟨b, off + j * 6 + 1, none⟩) hb).trans d1
          have HY := Lib.hid hy
          clear hy
          have g0 : decide (0 < (j : Int) + 1) = true := by first | (simp; done) | (simp; omega)
          by_cases hw1 : x.wi ≤ y.wi
          · have g1 : decide (x.wi ≤ y.wi) = true := by simpa using hw1
            go_wp2_with (first | (go_at_call 101; refine (hv _).mono ?_; rintro e w1 ⟨rfl, hb1⟩; have D1 := hD.below hb1 hDl; have D10 := D1.cell 0; have D11 := D1.cell 1; have hb2 := hBa.trans (hb1.mono hBa.size); have Y0 := (hb2.cell (p := ⟨b, off + j * 6, none⟩) hbr).trans d0; have Y1 := (hb2.cell (p := ⟨b, off + j * 6 + 1, none⟩) hbr).trans d1; simp only [List.getElem?_toArray, List.getElem?_cons_zero, List.getElem?_cons_succ] at D10 D11))
            (try (go_quiet (fail); go_wp2))
            have hno := Lib.hid (psB_no HX.out fun hp => by have := (hp.2 y (by omega) HY.out).1; omega)
            go_ret
            exact ⟨ret_bool hno.out.symm, Below.drewN' (hB.trans ((hBa.trans (hb1.mono hBa.size)).mono hs)) _⟩
          have g1 : decide (x.wi ≤ y.wi) = false := by simpa using hw1
          by_cases hw2 : x.ti < y.ti
          · have g2 : decide (x.ti < y.ti) = true := by simpa using hw2
            go_wp2_with (first | (go_at_call 101; refine (hv _).mono ?_; rintro e w1 ⟨rfl, hb1⟩; have D1 := hD.below hb1 hDl; have D10 := D1.cell 0; have D11 := D1.cell 1; have hb2 := hBa.trans (hb1.mono hBa.size); have Y0 := (hb2.cell (p := ⟨b, off + j * 6, none⟩) hbr).trans d0; have Y1 := (hb2.cell (p := ⟨b, off + j * 6 + 1, none⟩) hbr).trans d1; simp only [List.getElem?_toArray, List.getElem?_cons_zero, List.getElem?_cons_succ] at D10 D11))
            (try (go_quiet (fail); go_wp2))
            have hno := Lib.hid (psB_no HX.out fun hp => by have := (hp.2 y (by omega) HY.out).2; omega)
            go_ret
            exact ⟨ret_bool hno.out.symm, Below.drewN' (hB.trans ((hBa.trans (hb1.mono hBa.size)).mono hs)) _⟩
          have g2 : decide (x.ti < y.ti) = false := by simpa using hw2
          have hnx := Lib.hid (pTo_succ hok.out HX.out q (fun z _ hz => by
            have hz' : xs[j]? = some z := hz
            rw [HY.out] at hz'
            injection hz' with hz'
            subst hz'
            exact ⟨by omega, by omega⟩))
          go_wp2_with (first | (go_at_call 101; refine (hv _).mono ?_; rintro e w1 ⟨rfl, hb1⟩; have D1 := hD.below hb1 hDl; have D10 := D1.cell 0; have D11 := D1.cell 1; have hb2 := hBa.trans (hb1.mono hBa.size); have Y0 := (hb2.cell (p := ⟨b, off + j * 6, none⟩) hbr).trans d0; have Y1 := (hb2.cell (p := ⟨b, off + j * 6 + 1, none⟩) hbr).trans d1; simp only [List.getElem?_toArray, List.getElem?_cons_zero, List.getElem?_cons_succ] at D10 D11))
          (try (go_quiet (fail); go_wp2))
          go_roundw
          case rel => exact ⟨j + 2, by omega, by go_num, hnx.out, Below.drewN' (hB.trans ((hBa.trans (hb1.mono hBa.size)).mono hs)) _⟩
          case measure => simp [intOf]; omega
      · rw [show pkB x = false from decide_eq_false q] at hv
        have hno := Lib.hid (psB_no HX.out fun hp => q hp.1)
        go_wp2_with (first | (go_at_call 101; refine (hv _).mono ?_; rintro e w1 ⟨rfl, hb1⟩))
        go_ret
        exact ⟨ret_bool hno.out.symm, hB.trans ((hBa.trans (hb1.mono hBa.size)).mono hs)⟩
    · have hkn : k = n := by omega
      subst hkn
      have key := Lib.hid (psB_end hok.out HL.out)
      go_wp2
      go_ret
      exact ⟨ret_bool (by rw [key.out]; exact (decide_eq_true (by omega)).symm), hB⟩
end Go.Proofs.YthbkmnladaneaaaGreatDoor
