/-
  Pacers: the model, and what is valid.
  Conditions: as each theorem states them.
-/
import Derived.Test.YtilokgloocbbnaaRows
import Derived.Test.YtilokgloocbbnaaLib
import Derived.Test.YtilokgloocbbnaaOwn
import Derived.Test.YtilokgloocbbnaaDraw
import Derived.Test.YtilokgloocbbnaaInv
import Derived.Test.YtilokgloocbbnaaSlots
import Derived.Outline
namespace Go.Proofs.Ytilokgloocbbnaa
open Go.RowKit
set_option linter.unusedVariables false
set_option linter.unusedSimpArgs false

/-- A packet that waits. -/
structure Wt where
  id : Int
  cl : Int
  sz : Int
deriving DecidableEq
def Wt.c (x : Wt) : List Value := [.int .i64 x.id, .int .i64 x.cl, .int .i64 x.sz]
def Wt.v (x : Wt) : Value := .agg #[.int .i64 x.id, .int .i64 x.cl, .int .i64 x.sz]
def wOk (x : Wt) : Prop := 0 ≤ x.id ∧ x.id ≤ 999999 ∧ 0 ≤ x.cl ∧ x.cl ≤ 2 ∧ 1 ≤ x.sz ∧ x.sz ≤ 1500
instance (x : Wt) : Decidable (wOk x) := by unfold wOk; infer_instance
def wB (x : Wt) : Bool := decide (wOk x)

/-- A slice of packets that wait. -/
def Wts (w : World) (B : Nat) (A : Option Addr) (n : Nat) (xs : List Wt) : Prop := Sl w B 3 A n (xs.flatMap Wt.c)
theorem flat_len (xs : List Wt) : (xs.flatMap Wt.c).length = xs.length * 3 := by
  induction xs with
  | nil => rfl
  | cons x xs ih => simp only [List.flatMap_cons, List.length_append, ih, List.length_cons]; simp [Wt.c]; omega
theorem flat_at (xs : List Wt) (i j : Nat) (hj : j < 3) : (xs.flatMap Wt.c)[i * 3 + j]? = (xs[i]?).bind fun x => x.c[j]? := by
  induction xs generalizing i with
  | nil => simp
  | cons x xs ih =>
    rw [List.flatMap_cons]
    cases i with
    | zero => rw [List.getElem?_append_left (by simp [Wt.c]; omega)]; simp
    | succ i =>
      rw [List.getElem?_append_right (by simp [Wt.c]; omega)]
      have : (i + 1) * 3 + j - x.c.length = i * 3 + j := by simp [Wt.c]; omega
      rw [this, ih]
      simp
theorem Wts.len {w : World} {B n : Nat} {A : Option Addr} {xs : List Wt} (h : Wts w B A n xs) : xs.length = n := by
  have := h.1
  rw [flat_len] at this
  omega
theorem Wts.below {w w' : World} {B n : Nat} {A : Option Addr} {xs : List Wt} (h : Wts w B A n xs) (hb : Below B w w') : Wts w' B A n xs := Sl.below h hb
theorem Wts.more {w : World} {B B' n : Nat} {A : Option Addr} {xs : List Wt} (h : Wts w B A n xs) (hB : B ≤ B') : Wts w B' A n xs := Sl.more h hB
theorem Wts.addr {w : World} {B n : Nat} {A : Option Addr} {xs : List Wt} (h : Wts w B A n xs) (hn : 0 < n) : ∃ b off, A = some ⟨b, off, none⟩ ∧ b < B ∧
    ∀ i x, xs[i]? = some x → w.cell? ⟨b, off + i * 3, none⟩ = some (.int .i64 x.id) ∧ w.cell? ⟨b, off + i * 3 + 1, none⟩ = some (.int .i64 x.cl) ∧ w.cell? ⟨b, off + i * 3 + 2, none⟩ = some (.int .i64 x.sz) := by
  obtain ⟨b, off, e, hb, hc⟩ := h.2 hn
  refine ⟨b, off, e, hb, fun i x hx => ?_⟩
  have h0 := flat_at xs i 0 (by omega)
  have h1 := flat_at xs i 1 (by omega)
  have h2 := flat_at xs i 2 (by omega)
  rw [hx] at h0 h1 h2
  simp only [Wt.c, Option.bind_some, List.getElem?_cons_zero, List.getElem?_cons_succ] at h0 h1 h2
  have c0 := hc _ _ h0
  have c1 := hc _ _ h1
  have c2 := hc _ _ h2
  simp only [Nat.add_zero, ← Nat.add_assoc] at c0 c1 c2
  exact ⟨c0, c1, c2⟩

set_option maxHeartbeats 1000000 in
theorem l22w_any (x : Wt) (w : World) : Calls Try.prog 42 #[.agg #[.int .i64 x.id, .int .i64 x.cl, .int .i64 x.sz]] w fun e w' => e = .returned (.bool (wB x)) ∧ Below w.heap.size w w' := by
  go_enter Try.func42, Try.ntmps42
  go_wp2_with go_in
  all_goals
    go_ret
    exact ⟨ret_bool (by ((try simp only [decide_eq_true_eq, decide_eq_false_iff_not, Bool.not_eq_true', Bool.not_eq_false'] at *); unfold wB wOk; first | exact decide_eq_decide.2 (by omega) | exact (decide_eq_false (by omega)).symm | exact (decide_eq_true (by omega)).symm)), (by repeat (first | exact Below.refl _ _ | assumption | refine Below.setCell ?_ (by first | omega | (simp; done) | (simp; omega)) _ | refine Below.alloc ?_ (by first | omega | (simp; done) | (simp; omega)) _ | refine Below.drew ?_ | refine Below.drewN' ?_ _ | refine Below.trans ?_ (Below.mono (by assumption) (by first | omega | (simp; done) | (simp; omega)))))⟩
set_option maxHeartbeats 1000000 in
theorem iwv_any (x : Wt) (w : World) : Calls Try.prog 37 #[.agg #[.int .i64 x.id, .int .i64 x.cl, .int .i64 x.sz]] w fun e w' => e = .returned (.bool (wB x)) ∧ Below w.heap.size w w' := by
  go_enter Try.func37, Try.ntmps37
  go_wp2_with go_in
  all_goals
    go_ret
    exact ⟨ret_bool (by ((try simp only [decide_eq_true_eq, decide_eq_false_iff_not, Bool.not_eq_true', Bool.not_eq_false'] at *); unfold wB wOk; first | exact decide_eq_decide.2 (by omega) | exact (decide_eq_false (by omega)).symm | exact (decide_eq_true (by omega)).symm)), (by repeat (first | exact Below.refl _ _ | assumption | refine Below.setCell ?_ (by first | omega | (simp; done) | (simp; omega)) _ | refine Below.alloc ?_ (by first | omega | (simp; done) | (simp; omega)) _ | refine Below.drew ?_ | refine Below.drewN' ?_ _ | refine Below.trans ?_ (Below.mono (by assumption) (by first | omega | (simp; done) | (simp; omega)))))⟩

/-- Are the first k packets valid, and their classes ascending? -/
def okTo (xs : List Wt) (k : Nat) : Prop := ∀ j x, j < k → xs[j]? = some x → wOk x ∧ ∀ y, 0 < j → xs[j - 1]? = some y → y.cl ≤ x.cl
theorem okTo_zero (xs : List Wt) : okTo xs 0 := fun j x h => absurd h (by omega)
theorem okTo_le {xs : List Wt} {k m : Nat} (h : okTo xs m) (hk : k ≤ m) : okTo xs k := fun j x hj => h j x (by omega)
theorem okTo_succ {xs : List Wt} {k : Nat} {x : Wt} (h : okTo xs k) (hx : xs[k]? = some x) (hw : wOk x) (hy : ∀ y, 0 < k → xs[k - 1]? = some y → y.cl ≤ x.cl) : okTo xs (k + 1) := by
  intro j z hj hz
  by_cases e : j = k
  · subst e
    rw [hx] at hz
    injection hz with hz
    subst hz
    exact ⟨hw, hy⟩
  · exact h j z (by omega) hz
def pOk (e c : Int) (xs : List Wt) : Prop := 1 ≤ e ∧ e ≤ 1500 ∧ 0 ≤ c ∧ c ≤ 3000 ∧ xs.length ≤ 12 ∧ okTo xs xs.length
noncomputable def pB (e c : Int) (xs : List Wt) : Bool := @decide (pOk e c xs) (Classical.propDecidable _)
theorem pB_true {e c : Int} {xs : List Wt} : pB e c xs = true ↔ pOk e c xs := by unfold pB; exact @decide_eq_true_iff _ (Classical.propDecidable _)
theorem pB_false {e c : Int} {xs : List Wt} : pB e c xs = false ↔ ¬ pOk e c xs := by unfold pB; exact @decide_eq_false_iff_not _ (Classical.propDecidable _)

theorem pB_key {e c : Int} {xs : List Wt} {n : Nat} (h : okTo xs n) (hn : xs.length = n) : pB e c xs = decide (1 ≤ e ∧ e ≤ 1500 ∧ 0 ≤ c ∧ c ≤ 3000 ∧ n ≤ 12) := by
  subst hn
  by_cases hh : 1 ≤ e ∧ e ≤ 1500 ∧ 0 ≤ c ∧ c ≤ 3000 ∧ xs.length ≤ 12
  · rw [decide_eq_true hh]
    exact pB_true.2 ⟨hh.1, hh.2.1, hh.2.2.1, hh.2.2.2.1, hh.2.2.2.2, h⟩
  · rw [decide_eq_false hh]
    exact pB_false.2 fun hp => hh ⟨hp.1, hp.2.1, hp.2.2.1, hp.2.2.2.1, hp.2.2.2.2.1⟩
theorem okTo_no {e c : Int} {xs : List Wt} {k : Nat} {x : Wt} (hx : xs[k]? = some x) (h : ¬ (wOk x ∧ ∀ y, 0 < k → xs[k - 1]? = some y → y.cl ≤ x.cl)) : pB e c xs = false :=
  pB_false.2 fun hp => h (hp.2.2.2.2.2 k x (List.getElem?_eq_some_iff.1 hx).1 hx)

set_option maxHeartbeats 4000000 in
theorem spv_any (ea cr : Int) (A : Option Addr) (n c : Nat) (xs : List Wt) (w : World) (h : Wts w w.heap.size A n xs) (hn : n ≤ 1099511627776) :
    Calls Try.prog 41 #[.agg #[.int .i64 ea, .int .i64 cr, .slice A n c]] w fun e w' => e = .returned (.bool (pB ea cr xs)) ∧ Below w.heap.size w w' := by
  have HL := Lib.hid h.len
  go_enter Try.func41, Try.ntmps41
  go_wp2
  go_loopw [3] (fun i wr => ∃ k : Nat, k ≤ n ∧ i = .int .i64 k ∧ Hid (okTo xs k) ∧ Bk wr w.heap.size 25 #[.int .i64 ea, .int .i64 cr, .slice A n c] ∧ Below w.heap.size w wr) (fun i _ => n - (intOf i).toNat)
  case atStart => exact ⟨0, by omega, rfl, okTo_zero xs, Bk.new _ _ _, (by repeat (first | exact Below.refl _ _ | assumption | refine Below.setCell ?_ (by first | omega | (simp; done) | (simp; omega)) _ | refine Below.alloc ?_ (by first | omega | (simp; done) | (simp; omega)) _ | refine Below.drew ?_ | refine Below.drewN' ?_ _ | refine Below.trans ?_ (Below.mono (by assumption) (by first | omega | (simp; done) | (simp; omega)))))⟩
  case round =>
    obtain ⟨k, hk, rfl, hok, hP, hB⟩ := hrel
    (try clear hP_c0); (try clear hP_f0)
    (try clear hP_c1); (try clear hP_f1)
    (try clear hP_c2); (try clear hP_f2)
    (try clear hP_lt)
    have hP_lt := hP.lt; (try simp only [World.size_alloc] at hP_lt)
    have hP_c0 := hP.cell 0; have hP_f0 := hP.frozen 0
    have hP_c1 := hP.cell 1; have hP_f1 := hP.frozen 1
    have hP_c2 := hP.cell 2; have hP_f2 := hP.frozen 2
    simp only [List.getElem?_toArray, List.getElem?_cons_zero, List.getElem?_cons_succ] at hP_c0 hP_c1 hP_c2
    by_cases hlt : k < n
    · have e0 : decide (k < n) = true := by simpa using hlt
      obtain ⟨b, off, rfl, hb, hcell⟩ := h.addr (by omega)
      obtain ⟨x, hx⟩ : ∃ x, xs[k]? = some x := ⟨_, List.getElem?_eq_getElem (by rw [HL.out]; exact hlt)⟩
      obtain ⟨c0, c1, c2⟩ := hcell k x hx
      replace c0 := (hB.cell (p := ⟨b, off + k * 3, none⟩) hb).trans c0
      replace c1 := (hB.cell (p := ⟨b, off + k * 3 + 1, none⟩) hb).trans c1
      replace c2 := (hB.cell (p := ⟨b, off + k * 3 + 2, none⟩) hb).trans c2
      have HC := Lib.hid hcell
      have HX := Lib.hid hx
      clear hcell hx
      cases q : wB x
      · have hv := fun w => l22w_any x w
        rw [q] at hv
        go_wp2_with fail
        refine wp_region_cells [(w.heap.size, 2, .slice (some ⟨b, off, none⟩) n c), (b, off + k * 3, .int .i64 x.id), (b, off + k * 3 + 1, .int .i64 x.cl), (b, off + k * 3 + 2, .int .i64 x.sz)] (by kernel_rfl) (by kernel_rfl) ?_ ?_
        · simp only [List.forall_mem_cons]
          exact ⟨by go_simp, by go_simp, by go_simp, by go_simp, by simp⟩
        intro hcs
        simp only [List.forall_mem_cons] at hcs
        obtain ⟨dc0, dc1, dc2, dc3, -⟩ := hcs
        repeat (any_goals (first | go_big_quiet_step (first | (go_at_call 42; exact BW.calls (Nat.le_refl _) _ (hv _))) | quiet_step (first | (go_at_call 42; exact BW.calls (Nat.le_refl _) _ (hv _)))))
        refine wpQuiet_nil ?_
        intro _ hw'
        obtain ⟨xw, hw''⟩ := hw'
        subst hw''
        have hbw := xw.2
        clear dc0 dc1 dc2 dc3
        generalize xw.1 = ww at hbw ⊢
        clear xw
        obtain ⟨kw, fw⟩ := bcell hbw
        have sw := hbw.size
        have hB2 : Below w.heap.size w ww := hB.trans (hbw.mono hB.size)
        replace hP := hP.below hbw (by first | omega | exact hP.lt | (simp; done) | (simp; omega))
        clear kw fw hbw
        go_wp2
        go_ret
        exact ⟨ret_bool (okTo_no HX.out fun hp => by
          rw [wB, decide_eq_false_iff_not] at q
          exact q hp.1).symm, hB2⟩
      · have hv := fun w => l22w_any x w
        rw [q] at hv
        have hwx : wOk x := of_decide_eq_true q
        rcases k with _ | j
        · simp only [Nat.zero_mul, Nat.add_zero, Nat.zero_add] at c0 c1 c2
          have hnx := Lib.hid (okTo_succ hok.out HX.out hwx (fun y h0 => absurd h0 (by omega)))
          go_wp2_with fail
          refine wp_region_cells [(w.heap.size, 2, .slice (some ⟨b, off, none⟩) n c), (b, off, .int .i64 x.id), (b, off + 1, .int .i64 x.cl), (b, off + 2, .int .i64 x.sz)] (by kernel_rfl) (by kernel_rfl) ?_ ?_
          · simp only [List.forall_mem_cons]
            exact ⟨by go_simp, by go_simp, by go_simp, by go_simp, by simp⟩
          intro hcs
          simp only [List.forall_mem_cons] at hcs
          obtain ⟨dc0, dc1, dc2, dc3, -⟩ := hcs
          repeat (any_goals (first | go_big_quiet_step (first | (go_at_call 42; exact BW.calls (Nat.le_refl _) _ (hv _))) | quiet_step (first | (go_at_call 42; exact BW.calls (Nat.le_refl _) _ (hv _)))))
          refine wpQuiet_nil ?_
          intro _ hw'
          obtain ⟨xw, hw''⟩ := hw'
          subst hw''
          have hbw := xw.2
          clear dc0 dc1 dc2 dc3
          generalize xw.1 = ww at hbw ⊢
          clear xw
          obtain ⟨kw, fw⟩ := bcell hbw
          have sw := hbw.size
          have hB2 : Below w.heap.size w ww := hB.trans (hbw.mono hB.size)
          replace hP := hP.below hbw (by first | omega | exact hP.lt | (simp; done) | (simp; omega))
          clear kw fw hbw
          go_wp2
          go_roundw
          case rel => exact ⟨1, by omega, rfl, hnx.out, hP, hB2⟩
          case measure => simp [intOf]; omega
        · obtain ⟨y, hy⟩ : ∃ y, xs[j]? = some y := ⟨_, List.getElem?_eq_getElem (by rw [HL.out]; omega)⟩
          obtain ⟨-, d1, -⟩ := HC.out j y hy
          replace d1 := (hB.cell (p := ⟨b, off + j * 3 + 1, none⟩) hb).trans d1
          have HY := Lib.hid hy
          clear hy
          have g0 : decide (0 < (j : Int) + 1) = true := by first | (simp; done) | (simp; omega)
          by_cases hyx : x.cl < y.cl
          · have g1 : decide (x.cl < y.cl) = true := by simpa using hyx
            go_wp2_with fail
            refine wp_region_cells [(w.heap.size, 2, .slice (some ⟨b, off, none⟩) n c), (b, off + (j + 1) * 3, .int .i64 x.id), (b, off + (j + 1) * 3 + 1, .int .i64 x.cl), (b, off + (j + 1) * 3 + 2, .int .i64 x.sz), (b, off + j * 3 + 1, .int .i64 y.cl)] (by kernel_rfl) (by kernel_rfl) ?_ ?_
            · simp only [List.forall_mem_cons]
              exact ⟨by go_simp, by go_simp, by go_simp, by go_simp, by go_simp, by simp⟩
            intro hcs
            simp only [List.forall_mem_cons] at hcs
            obtain ⟨dc0, dc1, dc2, dc3, dc4, -⟩ := hcs
            repeat (any_goals (first | go_big_quiet_step (first | (go_at_call 42; exact BW.calls (Nat.le_refl _) _ (hv _))) | quiet_step (first | (go_at_call 42; exact BW.calls (Nat.le_refl _) _ (hv _)))))
            refine wpQuiet_nil ?_
            intro _ hw'
            obtain ⟨xw, hw''⟩ := hw'
            subst hw''
            have hbw := xw.2
            clear dc0 dc1 dc2 dc3 dc4
            generalize xw.1 = ww at hbw ⊢
            clear xw
            obtain ⟨kw, fw⟩ := bcell hbw
            have sw := hbw.size
            have hB2 : Below w.heap.size w ww := hB.trans (hbw.mono hB.size)
            replace hP := hP.below hbw (by first | omega | exact hP.lt | (simp; done) | (simp; omega))
            clear kw fw hbw
            go_wp2
            go_ret
            exact ⟨ret_bool (okTo_no HX.out fun hp => by have := hp.2 y (by omega) HY.out; omega).symm, hB2⟩
          · have g1 : decide (x.cl < y.cl) = false := by simpa using hyx
            have hnx := Lib.hid (okTo_succ hok.out HX.out hwx (fun z _ hz => by
              have hz' : xs[j]? = some z := hz
              rw [HY.out] at hz'
              injection hz' with hz'
              subst hz'
              omega))
            go_wp2_with fail
            refine wp_region_cells [(w.heap.size, 2, .slice (some ⟨b, off, none⟩) n c), (b, off + (j + 1) * 3, .int .i64 x.id), (b, off + (j + 1) * 3 + 1, .int .i64 x.cl), (b, off + (j + 1) * 3 + 2, .int .i64 x.sz), (b, off + j * 3 + 1, .int .i64 y.cl)] (by kernel_rfl) (by kernel_rfl) ?_ ?_
            · simp only [List.forall_mem_cons]
              exact ⟨by go_simp, by go_simp, by go_simp, by go_simp, by go_simp, by simp⟩
            intro hcs
            simp only [List.forall_mem_cons] at hcs
            obtain ⟨dc0, dc1, dc2, dc3, dc4, -⟩ := hcs
            repeat (any_goals (first | go_big_quiet_step (first | (go_at_call 42; exact BW.calls (Nat.le_refl _) _ (hv _))) | quiet_step (first | (go_at_call 42; exact BW.calls (Nat.le_refl _) _ (hv _)))))
            refine wpQuiet_nil ?_
            intro _ hw'
            obtain ⟨xw, hw''⟩ := hw'
            subst hw''
            have hbw := xw.2
            clear dc0 dc1 dc2 dc3 dc4
            generalize xw.1 = ww at hbw ⊢
            clear xw
            obtain ⟨kw, fw⟩ := bcell hbw
            have sw := hbw.size
            have hB2 : Below w.heap.size w ww := hB.trans (hbw.mono hB.size)
            replace hP := hP.below hbw (by first | omega | exact hP.lt | (simp; done) | (simp; omega))
            clear kw fw hbw
            go_wp2
            go_roundw
            case rel => exact ⟨j + 2, by omega, by go_num, hnx.out, hP, hB2⟩
            case measure => simp [intOf]; omega
    · have hkn : k = n := by omega
      subst hkn
      have key := Lib.hid (pB_key (e := ea) (c := cr) hok.out HL.out)
      go_wp2_with go_in
      all_goals
        go_ret
        exact ⟨ret_bool (by rw [key.out]; first | exact decide_eq_decide.2 (by omega) | exact (decide_eq_false (by omega)).symm | exact (decide_eq_true (by omega)).symm), hB⟩

set_option maxHeartbeats 4000000 in
theorem ipv_any (ea cr : Int) (A : Option Addr) (n c : Nat) (xs : List Wt) (w : World) (h : Wts w w.heap.size A n xs) (hn : n ≤ 1099511627776) :
    Calls Try.prog 17 #[.agg #[.int .i64 ea, .int .i64 cr, .slice A n c]] w fun e w' => e = .returned (.bool (pB ea cr xs)) ∧ Below w.heap.size w w' := by
  have HL := Lib.hid h.len
  by_cases hpre : 1 ≤ ea ∧ ea ≤ 1500 ∧ 0 ≤ cr ∧ cr ≤ 3000 ∧ n ≤ 12
  · obtain ⟨p1, p2, p3, p4, p5⟩ := hpre
    have d1 : decide (ea < 1) = false := by simp; omega
    have d2 : decide (1500 < ea) = false := by simp; omega
    have d3 : decide (cr < 0) = false := by simp; omega
    have d4 : decide (3000 < cr) = false := by simp; omega
    have d5 : decide (12 < n) = false := by simp; omega
    go_enter Try.func17, Try.ntmps17
    go_wp2
    go_loopw [30] (fun i wr => ∃ k : Nat, k ≤ n ∧ i = .int .i64 k ∧ Hid (okTo xs k) ∧ Bk wr w.heap.size 25 #[.int .i64 ea, .int .i64 cr, .slice A n c] ∧ Below w.heap.size w wr) (fun i _ => n - (intOf i).toNat)
    case atStart => exact ⟨0, by omega, rfl, okTo_zero xs, Bk.new _ _ _, (by repeat (first | exact Below.refl _ _ | assumption | refine Below.setCell ?_ (by first | omega | (simp; done) | (simp; omega)) _ | refine Below.alloc ?_ (by first | omega | (simp; done) | (simp; omega)) _ | refine Below.drew ?_ | refine Below.drewN' ?_ _ | refine Below.trans ?_ (Below.mono (by assumption) (by first | omega | (simp; done) | (simp; omega)))))⟩
    case round =>
      obtain ⟨k, hk, rfl, hok, hP, hB⟩ := hrel
      (try clear hP_c0); (try clear hP_f0)
      (try clear hP_c1); (try clear hP_f1)
      (try clear hP_c2); (try clear hP_f2)
      (try clear hP_lt)
      have hP_lt := hP.lt; (try simp only [World.size_alloc] at hP_lt)
      have hP_c0 := hP.cell 0; have hP_f0 := hP.frozen 0
      have hP_c1 := hP.cell 1; have hP_f1 := hP.frozen 1
      have hP_c2 := hP.cell 2; have hP_f2 := hP.frozen 2
      simp only [List.getElem?_toArray, List.getElem?_cons_zero, List.getElem?_cons_succ] at hP_c0 hP_c1 hP_c2
      by_cases hlt : k < n
      · have e0 : decide (k < n) = true := by simpa using hlt
        obtain ⟨b, off, rfl, hb, hcell⟩ := h.addr (by omega)
        obtain ⟨x, hx⟩ : ∃ x, xs[k]? = some x := ⟨_, List.getElem?_eq_getElem (by rw [HL.out]; exact hlt)⟩
        obtain ⟨c0, c1, c2⟩ := hcell k x hx
        replace c0 := (hB.cell (p := ⟨b, off + k * 3, none⟩) hb).trans c0
        replace c1 := (hB.cell (p := ⟨b, off + k * 3 + 1, none⟩) hb).trans c1
        replace c2 := (hB.cell (p := ⟨b, off + k * 3 + 2, none⟩) hb).trans c2
        have HC := Lib.hid hcell
        have HX := Lib.hid hx
        have hs := hB.size
        have hbr : b < wr.heap.size := by omega
        clear hcell hx
        cases q : wB x
        · have hv := fun w => iwv_any x w
          rw [q] at hv
          go_wp2_with fail
          refine wp_region_cells [(wr.heap.size, 0, .int .i64 x.id), (wr.heap.size, 1, .int .i64 x.cl), (wr.heap.size, 2, .int .i64 x.sz), (w.heap.size, 2, .slice (some ⟨b, off, none⟩) n c)] (by kernel_rfl) (by kernel_rfl) ?_ ?_
          · simp only [List.forall_mem_cons]
            exact ⟨by go_simp, by go_simp, by go_simp, by go_simp, by simp⟩
          intro hcs
          simp only [List.forall_mem_cons] at hcs
          obtain ⟨dc0, dc1, dc2, dc3, -⟩ := hcs
          repeat (any_goals (first | go_big_quiet_step (first | (go_at_call 37; exact BW.calls (Nat.le_refl _) _ (hv _))) | quiet_step (first | (go_at_call 37; exact BW.calls (Nat.le_refl _) _ (hv _)))))
          refine wpQuiet_nil ?_
          intro _ hw'
          obtain ⟨xw, hw''⟩ := hw'
          subst hw''
          have hbw := xw.2
          clear dc0 dc1 dc2 dc3
          generalize xw.1 = ww at hbw ⊢
          clear xw
          obtain ⟨kw, fw⟩ := bcell hbw
          have sw := hbw.size
          have hB2 : Below w.heap.size w ww := (hB.alloc hB.size _).trans (hbw.mono (by simp; omega))
          replace hP := (hP.alloc (.cells #[.int .i64 x.id, .int .i64 x.cl, .int .i64 x.sz] 27)).below hbw (by simp; omega)
          clear kw fw hbw
          go_wp2
          go_ret
          exact ⟨ret_bool (okTo_no HX.out fun hp => by
            rw [wB, decide_eq_false_iff_not] at q
            exact q hp.1).symm, hB2⟩
        · have hv := fun w => iwv_any x w
          rw [q] at hv
          have hwx : wOk x := of_decide_eq_true q
          rcases k with _ | j
          · simp only [Nat.zero_mul, Nat.add_zero, Nat.zero_add] at c0 c1 c2
            have hnx := Lib.hid (okTo_succ hok.out HX.out hwx (fun y h0 => absurd h0 (by omega)))
            go_wp2_with fail
            refine wp_region_cells [(wr.heap.size, 0, .int .i64 x.id), (wr.heap.size, 1, .int .i64 x.cl), (wr.heap.size, 2, .int .i64 x.sz), (w.heap.size, 2, .slice (some ⟨b, off, none⟩) n c)] (by kernel_rfl) (by kernel_rfl) ?_ ?_
            · simp only [List.forall_mem_cons]
              exact ⟨by go_simp, by go_simp, by go_simp, by go_simp, by simp⟩
            intro hcs
            simp only [List.forall_mem_cons] at hcs
            obtain ⟨dc0, dc1, dc2, dc3, -⟩ := hcs
            repeat (any_goals (first | go_big_quiet_step (first | (go_at_call 37; exact BW.calls (Nat.le_refl _) _ (hv _))) | quiet_step (first | (go_at_call 37; exact BW.calls (Nat.le_refl _) _ (hv _)))))
            refine wpQuiet_nil ?_
            intro _ hw'
            obtain ⟨xw, hw''⟩ := hw'
            subst hw''
            have hbw := xw.2
            clear dc0 dc1 dc2 dc3
            generalize xw.1 = ww at hbw ⊢
            clear xw
            obtain ⟨kw, fw⟩ := bcell hbw
            have sw := hbw.size
            have hB2 : Below w.heap.size w ww := (hB.alloc hB.size _).trans (hbw.mono (by simp; omega))
            replace hP := (hP.alloc (.cells #[.int .i64 x.id, .int .i64 x.cl, .int .i64 x.sz] 27)).below hbw (by simp; omega)
            clear kw fw hbw
            go_wp2
            go_roundw
            case rel => exact ⟨1, by omega, rfl, hnx.out, hP, hB2⟩
            case measure => simp [intOf]; omega
          · obtain ⟨y, hy⟩ : ∃ y, xs[j]? = some y := ⟨_, List.getElem?_eq_getElem (by rw [HL.out]; omega)⟩
            obtain ⟨-, e1, -⟩ := HC.out j y hy
            replace e1 := (hB.cell (p := ⟨b, off + j * 3 + 1, none⟩) hb).trans e1
            have HY := Lib.hid hy
            clear hy
            have g0 : decide (0 < (j : Int) + 1) = true := by first | (simp; done) | (simp; omega)
            by_cases hyx : x.cl < y.cl
            · have g1 : decide (x.cl < y.cl) = true := by simpa using hyx
              go_wp2_with fail
              refine wp_region_cells [(wr.heap.size, 0, .int .i64 x.id), (wr.heap.size, 1, .int .i64 x.cl), (wr.heap.size, 2, .int .i64 x.sz), (w.heap.size, 2, .slice (some ⟨b, off, none⟩) n c), (b, off + j * 3 + 1, .int .i64 y.cl)] (by kernel_rfl) (by kernel_rfl) ?_ ?_
              · simp only [List.forall_mem_cons]
                exact ⟨by go_simp, by go_simp, by go_simp, by go_simp, by go_simp, by simp⟩
              intro hcs
              simp only [List.forall_mem_cons] at hcs
              obtain ⟨dc0, dc1, dc2, dc3, dc4, -⟩ := hcs
              repeat (any_goals (first | go_big_quiet_step (first | (go_at_call 37; exact BW.calls (Nat.le_refl _) _ (hv _))) | quiet_step (first | (go_at_call 37; exact BW.calls (Nat.le_refl _) _ (hv _)))))
              refine wpQuiet_nil ?_
              intro _ hw'
              obtain ⟨xw, hw''⟩ := hw'
              subst hw''
              have hbw := xw.2
              clear dc0 dc1 dc2 dc3 dc4
              generalize xw.1 = ww at hbw ⊢
              clear xw
              obtain ⟨kw, fw⟩ := bcell hbw
              have sw := hbw.size
              have hB2 : Below w.heap.size w ww := (hB.alloc hB.size _).trans (hbw.mono (by simp; omega))
              replace hP := (hP.alloc (.cells #[.int .i64 x.id, .int .i64 x.cl, .int .i64 x.sz] 27)).below hbw (by simp; omega)
              clear kw fw hbw
              go_wp2
              go_ret
              exact ⟨ret_bool (okTo_no HX.out fun hp => by have := hp.2 y (by omega) HY.out; omega).symm, hB2⟩
            · have g1 : decide (x.cl < y.cl) = false := by simpa using hyx
              have hnx := Lib.hid (okTo_succ hok.out HX.out hwx (fun z _ hz => by
                have hz' : xs[j]? = some z := hz
                rw [HY.out] at hz'
                injection hz' with hz'
                subst hz'
                omega))
              go_wp2_with fail
              refine wp_region_cells [(wr.heap.size, 0, .int .i64 x.id), (wr.heap.size, 1, .int .i64 x.cl), (wr.heap.size, 2, .int .i64 x.sz), (w.heap.size, 2, .slice (some ⟨b, off, none⟩) n c), (b, off + j * 3 + 1, .int .i64 y.cl)] (by kernel_rfl) (by kernel_rfl) ?_ ?_
              · simp only [List.forall_mem_cons]
                exact ⟨by go_simp, by go_simp, by go_simp, by go_simp, by go_simp, by simp⟩
              intro hcs
              simp only [List.forall_mem_cons] at hcs
              obtain ⟨dc0, dc1, dc2, dc3, dc4, -⟩ := hcs
              repeat (any_goals (first | go_big_quiet_step (first | (go_at_call 37; exact BW.calls (Nat.le_refl _) _ (hv _))) | quiet_step (first | (go_at_call 37; exact BW.calls (Nat.le_refl _) _ (hv _)))))
              refine wpQuiet_nil ?_
              intro _ hw'
              obtain ⟨xw, hw''⟩ := hw'
              subst hw''
              have hbw := xw.2
              clear dc0 dc1 dc2 dc3 dc4
              generalize xw.1 = ww at hbw ⊢
              clear xw
              obtain ⟨kw, fw⟩ := bcell hbw
              have sw := hbw.size
              have hB2 : Below w.heap.size w ww := (hB.alloc hB.size _).trans (hbw.mono (by simp; omega))
              replace hP := (hP.alloc (.cells #[.int .i64 x.id, .int .i64 x.cl, .int .i64 x.sz] 27)).below hbw (by simp; omega)
              clear kw fw hbw
              go_wp2
              go_roundw
              case rel => exact ⟨j + 2, by omega, by go_num, hnx.out, hP, hB2⟩
              case measure => simp [intOf]; omega
      · have hkn : k = n := by omega
        subst hkn
        have key := Lib.hid (pB_key (e := ea) (c := cr) hok.out HL.out)
        go_wp2
        go_ret
        exact ⟨ret_bool (by rw [key.out]; exact (decide_eq_true (by omega)).symm), hB⟩
  · go_enter Try.func17, Try.ntmps17
    go_wp2
    all_goals
      go_ret
      exact ⟨ret_bool (pB_false.2 fun hp => hpre ⟨hp.1, hp.2.1, hp.2.2.1, hp.2.2.2.1, by have := hp.2.2.2.2.1; rw [HL.out] at this; exact this⟩).symm, (by repeat (first | exact Below.refl _ _ | assumption | refine Below.setCell ?_ (by first | omega | (simp; done) | (simp; omega)) _ | refine Below.alloc ?_ (by first | omega | (simp; done) | (simp; omega)) _ | refine Below.drew ?_ | refine Below.drewN' ?_ _ | refine Below.trans ?_ (Below.mono (by assumption) (by first | omega | (simp; done) | (simp; omega)))))⟩
end Go.Proofs.Ytilokgloocbbnaa
