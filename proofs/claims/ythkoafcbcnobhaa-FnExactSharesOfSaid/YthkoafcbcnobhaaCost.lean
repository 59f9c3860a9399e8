/-
  What layers cost: the plain model, spec's l23Cost, l23Step, l23Sum, l23Layers, SharesCost, and impl's cost, oneMore, SharesCost.
  Conditions: as each theorem states them.
-/
import Derived.Test.YthkoafcbcnobhaaDemV
import Derived.Test.YthkoafcbcnobhaaBut
import Derived.Test.YthkoafcbcnobhaaInts
namespace Go.Proofs.Ythkoafcbcnobhaa
open Go.RowKit
set_option linter.unusedVariables false
set_option linter.unusedSimpArgs false

def cst (x : Dm) (l : Int) : Int := if l = 0 then x.lo else if l = 1 then x.mi else if l = 2 then x.hi else 0
def stp (x : Dm) (l : Int) : Int := cst x (l + 1) - cst x l
def dX (xs : List Dm) (k : Nat) : Dm := xs[k]?.getD ⟨0, 0, 0, 0⟩
def lX (ls : List Int) (k : Nat) : Int := ls[k]?.getD 0
def sumTo (xs : List Dm) (ls : List Int) : Nat → Int
  | 0 => 0
  | k + 1 => sumTo xs ls k + cst (dX xs k) (lX ls k)
def ysTo (ls : List Int) (k : Nat) : Prop := ∀ j, j < k → -1 ≤ lX ls j ∧ lX ls j ≤ 2
def shOk (xs : List Dm) (ls : List Int) : Prop := lOk xs ∧ xs.length = ls.length ∧ ysTo ls ls.length
noncomputable def shB (xs : List Dm) (ls : List Int) : Bool := @decide (shOk xs ls) (Classical.propDecidable _)
noncomputable def costI (xs : List Dm) (ls : List Int) : Int := @ite _ (shOk xs ls) (Classical.propDecidable _) (sumTo xs ls ls.length) (-1)

theorem shB_true {xs : List Dm} {ls : List Int} (h : shOk xs ls) : shB xs ls = true := by unfold shB; exact (@decide_eq_true_iff _ (Classical.propDecidable _)).2 h
theorem shB_false {xs : List Dm} {ls : List Int} (h : ¬ shOk xs ls) : shB xs ls = false := by unfold shB; exact (@decide_eq_false_iff_not _ (Classical.propDecidable _)).2 h
theorem costI_true {xs : List Dm} {ls : List Int} (h : shOk xs ls) : costI xs ls = sumTo xs ls ls.length := by unfold costI; rw [if_pos h]
theorem costI_false {xs : List Dm} {ls : List Int} (h : ¬ shOk xs ls) : costI xs ls = -1 := by unfold costI; rw [if_neg h]

theorem cst_bd {x : Dm} (h : dOk x) (l : Int) : 0 ≤ cst x l ∧ cst x l ≤ 9999 := by
  unfold dOk at h
  unfold cst
  split <;> (try split) <;> (try split) <;> omega
theorem lOk_at {xs : List Dm} (h : lOk xs) {k : Nat} {x : Dm} (hx : xs[k]? = some x) : dOk x := h.2 x (List.mem_of_getElem? hx)
theorem dX_of {xs : List Dm} {k : Nat} {x : Dm} (hx : xs[k]? = some x) : dX xs k = x := by unfold dX; rw [hx]; rfl
theorem sum_bd {xs : List Dm} (h : lOk xs) (ls : List Int) : ∀ k : Nat, k ≤ xs.length → 0 ≤ sumTo xs ls k ∧ sumTo xs ls k ≤ 9999 * k
  | 0, _ => by simp [sumTo]
  | k + 1, hk => by
    have ih := sum_bd h ls k (by omega)
    have hx : xs[k]? = some xs[k] := List.getElem?_eq_getElem (by omega)
    have hb := cst_bd (lOk_at h hx) (lX ls k)
    rw [← dX_of hx] at hb
    unfold sumTo
    omega
theorem sum_bd6 {xs : List Dm} (h : lOk xs) (ls : List Int) {k : Nat} (hk : k ≤ xs.length) : 0 ≤ sumTo xs ls k ∧ sumTo xs ls k ≤ 59994 := by
  have := sum_bd h ls k hk
  have := h.1
  omega
theorem sumTo_succ {xs : List Dm} {ls : List Int} {k : Nat} {x : Dm} {l o q : Int} (ho : sumTo xs ls k = o) (hx : xs[k]? = some x) (hl : lX ls k = l) (hq : cst x l = q) : sumTo xs ls (k + 1) = o + q := by
  unfold sumTo
  rw [ho, dX_of hx, hl, hq]
theorem ysTo_succ {ls : List Int} {k : Nat} {l : Int} (h : ysTo ls k) (hl : lX ls k = l) (h0 : -1 ≤ l) (h1 : l ≤ 2) : ysTo ls (k + 1) := by
  intro j hj
  by_cases e : j = k
  · subst e; rw [hl]; exact ⟨h0, h1⟩
  · exact h j (by omega)

set_option maxHeartbeats 1000000 in
theorem l23Cost_any (x : Dm) (l : Int) (w : World) : Calls Try.prog 49 #[.agg #[.int .i64 x.we, .int .i64 x.lo, .int .i64 x.mi, .int .i64 x.hi], .int .i64 l] w fun e w' => e = .returned (.int .i64 (cst x l)) ∧ Below w.heap.size w w' := by
  by_cases h0 : l = 0
  · subst h0
    go_enter Try.func49, Try.ntmps49
    go_wp2
    go_ret
    exact ⟨ret_int (by simp [cst]), (by repeat (first | exact Below.refl _ _ | assumption | refine Below.setCell ?_ (by first | omega | (simp; done) | (simp; omega)) _ | refine Below.alloc ?_ (by first | omega | (simp; done) | (simp; omega)) _ | refine Below.drew ?_ | refine Below.drewN' ?_ _ | refine Below.trans ?_ (Below.mono (by assumption) (by first | omega | (simp; done) | (simp; omega)))))⟩
  by_cases h1 : l = 1
  · subst h1
    go_enter Try.func49, Try.ntmps49
    go_wp2
    go_ret
    exact ⟨ret_int (by simp [cst]), (by repeat (first | exact Below.refl _ _ | assumption | refine Below.setCell ?_ (by first | omega | (simp; done) | (simp; omega)) _ | refine Below.alloc ?_ (by first | omega | (simp; done) | (simp; omega)) _ | refine Below.drew ?_ | refine Below.drewN' ?_ _ | refine Below.trans ?_ (Below.mono (by assumption) (by first | omega | (simp; done) | (simp; omega)))))⟩
  by_cases h2 : l = 2
  · subst h2
    go_enter Try.func49, Try.ntmps49
    go_wp2
    go_ret
    exact ⟨ret_int (by simp [cst]), (by repeat (first | exact Below.refl _ _ | assumption | refine Below.setCell ?_ (by first | omega | (simp; done) | (simp; omega)) _ | refine Below.alloc ?_ (by first | omega | (simp; done) | (simp; omega)) _ | refine Below.drew ?_ | refine Below.drewN' ?_ _ | refine Below.trans ?_ (Below.mono (by assumption) (by first | omega | (simp; done) | (simp; omega)))))⟩
  have e0 : (l == 0) = false := by simpa using h0
  have e1 : (l == 1) = false := by simpa using h1
  have e2 : (l == 2) = false := by simpa using h2
  go_enter Try.func49, Try.ntmps49
  go_wp2
  go_ret
  exact ⟨ret_int (by simp [cst, h0, h1, h2]), (by repeat (first | exact Below.refl _ _ | assumption | refine Below.setCell ?_ (by first | omega | (simp; done) | (simp; omega)) _ | refine Below.alloc ?_ (by first | omega | (simp; done) | (simp; omega)) _ | refine Below.drew ?_ | refine Below.drewN' ?_ _ | refine Below.trans ?_ (Below.mono (by assumption) (by first | omega | (simp; done) | (simp; omega)))))⟩
set_option maxHeartbeats 1000000 in
theorem icost_any (x : Dm) (l : Int) (w : World) : Calls Try.prog 35 #[.agg #[.int .i64 x.we, .int .i64 x.lo, .int .i64 x.mi, .int .i64 x.hi], .int .i64 l] w fun e w' => e = .returned (.int .i64 (cst x l)) ∧ Below w.heap.size w w' := by
  by_cases h0 : l = 0
  · subst h0
    go_enter Try.func35, Try.ntmps35
    go_wp2
    go_ret
    exact ⟨ret_int (by simp [cst]), (by repeat (first | exact Below.refl _ _ | assumption | refine Below.setCell ?_ (by first | omega | (simp; done) | (simp; omega)) _ | refine Below.alloc ?_ (by first | omega | (simp; done) | (simp; omega)) _ | refine Below.drew ?_ | refine Below.drewN' ?_ _ | refine Below.trans ?_ (Below.mono (by assumption) (by first | omega | (simp; done) | (simp; omega)))))⟩
  by_cases h1 : l = 1
  · subst h1
    go_enter Try.func35, Try.ntmps35
    go_wp2
    go_ret
    exact ⟨ret_int (by simp [cst]), (by repeat (first | exact Below.refl _ _ | assumption | refine Below.setCell ?_ (by first | omega | (simp; done) | (simp; omega)) _ | refine Below.alloc ?_ (by first | omega | (simp; done) | (simp; omega)) _ | refine Below.drew ?_ | refine Below.drewN' ?_ _ | refine Below.trans ?_ (Below.mono (by assumption) (by first | omega | (simp; done) | (simp; omega)))))⟩
  by_cases h2 : l = 2
  · subst h2
    go_enter Try.func35, Try.ntmps35
    go_wp2
    go_ret
    exact ⟨ret_int (by simp [cst]), (by repeat (first | exact Below.refl _ _ | assumption | refine Below.setCell ?_ (by first | omega | (simp; done) | (simp; omega)) _ | refine Below.alloc ?_ (by first | omega | (simp; done) | (simp; omega)) _ | refine Below.drew ?_ | refine Below.drewN' ?_ _ | refine Below.trans ?_ (Below.mono (by assumption) (by first | omega | (simp; done) | (simp; omega)))))⟩
  have e0 : (l == 0) = false := by simpa using h0
  have e1 : (l == 1) = false := by simpa using h1
  have e2 : (l == 2) = false := by simpa using h2
  go_enter Try.func35, Try.ntmps35
  go_wp2
  go_ret
  exact ⟨ret_int (by simp [cst, h0, h1, h2]), (by repeat (first | exact Below.refl _ _ | assumption | refine Below.setCell ?_ (by first | omega | (simp; done) | (simp; omega)) _ | refine Below.alloc ?_ (by first | omega | (simp; done) | (simp; omega)) _ | refine Below.drew ?_ | refine Below.drewN' ?_ _ | refine Below.trans ?_ (Below.mono (by assumption) (by first | omega | (simp; done) | (simp; omega)))))⟩
set_option maxHeartbeats 2000000 in
theorem l23Step_any (x : Dm) (l : Int) (w : World) (hx : dOk x) (h0 : -1 ≤ l) (h1 : l ≤ 2) : Calls Try.prog 51 #[.agg #[.int .i64 x.we, .int .i64 x.lo, .int .i64 x.mi, .int .i64 x.hi], .int .i64 l] w fun e w' => e = .returned (.int .i64 (stp x l)) ∧ Below w.heap.size w w' := by
  have b0 := cst_bd hx l
  have b1 := cst_bd hx (l + 1)
  have v0 := fun w => l23Cost_any x l w
  have v1 := fun w => l23Cost_any x (l + 1) w
  have hst : stp x l = cst x (l + 1) - cst x l := rfl
  generalize stp x l = s at hst ⊢
  generalize cst x l = q0 at *
  generalize cst x (l + 1) = q1 at *
  subst hst
  go_enter Try.func51, Try.ntmps51
  go_wp2_with fail
  have hD := Bk.new w 46 #[.int .i64 x.we, .int .i64 x.lo, .int .i64 x.mi, .int .i64 x.hi]
  have hBa : Below w.heap.size w (w.alloc (.cells #[.int .i64 x.we, .int .i64 x.lo, .int .i64 x.mi, .int .i64 x.hi] 46)) := (Below.refl _ _).alloc (Nat.le_refl _) _
  generalize (w.alloc (.cells #[.int .i64 x.we, .int .i64 x.lo, .int .i64 x.mi, .int .i64 x.hi] 46)) = wa at hD hBa ⊢
  generalize hg : w.heap.size = g at *
  (try clear hD_c0); (try clear hD_f0)
  (try clear hD_c1); (try clear hD_f1)
  (try clear hD_c2); (try clear hD_f2)
  (try clear hD_c3); (try clear hD_f3)
  (try clear hD_lt)
  have hD_lt := hD.lt; (try simp only [World.size_alloc] at hD_lt)
  have hD_c0 := hD.cell 0; have hD_f0 := hD.frozen 0
  have hD_c1 := hD.cell 1; have hD_f1 := hD.frozen 1
  have hD_c2 := hD.cell 2; have hD_f2 := hD.frozen 2
  have hD_c3 := hD.cell 3; have hD_f3 := hD.frozen 3
  simp only [List.getElem?_toArray, List.getElem?_cons_zero, List.getElem?_cons_succ] at hD_c0 hD_c1 hD_c2 hD_c3
  refine wp_region_cells [(g, 0, .int .i64 x.we), (g, 1, .int .i64 x.lo), (g, 2, .int .i64 x.mi), (g, 3, .int .i64 x.hi)] (by kernel_rfl) (by kernel_rfl) ?_ ?_
  · simp only [List.forall_mem_cons]
    exact ⟨by go_simp, by go_simp, by go_simp, by go_simp, by simp⟩
  intro hcs
  simp only [List.forall_mem_cons] at hcs
  obtain ⟨dc0, dc1, dc2, dc3, -⟩ := hcs
  repeat (any_goals (first | go_big_quiet_step (first | (go_at_call 49; first | (with_reducible exact BW.calls (Nat.le_refl _) _ (v0 _)) | (with_reducible exact BW.calls (Nat.le_refl _) _ (v1 _)))) | quiet_step (first | (go_at_call 49; first | (with_reducible exact BW.calls (Nat.le_refl _) _ (v0 _)) | (with_reducible exact BW.calls (Nat.le_refl _) _ (v1 _))))))
  refine wpQuiet_nil ?_
  intro _ hw'
  obtain ⟨xw, hw''⟩ := hw'
  subst hw''
  have hbw := xw.2
  clear dc0 dc1 dc2 dc3
  generalize xw.1 = ww at hbw ⊢
  clear xw
  obtain ⟨kw, fw⟩ := bcell hbw
  have sw := hbw.size
  go_wp2
  go_ret
  subst hg
  exact ⟨rfl, hBa.trans (hbw.mono hBa.size)⟩

set_option maxHeartbeats 4000000 in
theorem l23Sum_any (A A' : Option Addr) (n c c' : Nat) (xs : List Dm) (ls : List Int) (w : World) (h : Dms w w.heap.size A n xs) (h' : Ints w w.heap.size A' n ls) (hv : lOk xs) :
    Calls Try.prog 32 #[.slice A n c, .slice A' n c'] w fun e w' => e = .returned (.int .i64 (sumTo xs ls n)) ∧ Below w.heap.size w w' := by
  have HL := Lib.hid h.len
  have HV := Lib.hid hv
  have hn : n ≤ 6 := by have := hv.1; rw [HL.out] at this; exact this
  clear hv
  go_enter Try.func32, Try.ntmps32
  go_wp2
  go_loopw [5, 6] (fun osl i wr => ∃ (k : Nat) (o : Int), k ≤ n ∧ i = .int .i64 k ∧ osl = .int .i64 o ∧ Hid (sumTo xs ls k = o) ∧ Below w.heap.size w wr) (fun _ i _ => n - (intOf i).toNat)
  case atStart => exact ⟨0, 0, by omega, rfl, rfl, rfl, (by repeat (first | exact Below.refl _ _ | assumption | refine Below.setCell ?_ (by first | omega | (simp; done) | (simp; omega)) _ | refine Below.alloc ?_ (by first | omega | (simp; done) | (simp; omega)) _ | refine Below.drew ?_ | refine Below.drewN' ?_ _ | refine Below.trans ?_ (Below.mono (by assumption) (by first | omega | (simp; done) | (simp; omega)))))⟩
  case round =>
    obtain ⟨k, o, hk, rfl, rfl, hok, hB⟩ := hrel
    by_cases hlt : k < n
    · have e0 : decide (k < n) = true := by simpa using hlt
      obtain ⟨b, off, rfl, hb, hcell⟩ := h.addr (by omega)
      obtain ⟨b', off', rfl, hb', hcell'⟩ := h'.at_ (by omega)
      obtain ⟨x, hx⟩ : ∃ x, xs[k]? = some x := ⟨_, List.getElem?_eq_getElem (by rw [HL.out]; exact hlt)⟩
      obtain ⟨c0, c1, c2, c3⟩ := hcell k x hx
      replace c0 := (hB.cell (p := ⟨b, off + k * 4, none⟩) hb).trans c0
      replace c1 := (hB.cell (p := ⟨b, off + k * 4 + 1, none⟩) hb).trans c1
      replace c2 := (hB.cell (p := ⟨b, off + k * 4 + 2, none⟩) hb).trans c2
      replace c3 := (hB.cell (p := ⟨b, off + k * 4 + 3, none⟩) hb).trans c3
      have cl := (hB.cell (p := ⟨b', off' + k, none⟩) hb').trans (hcell' k hlt)
      obtain ⟨l, hl⟩ : ∃ l, lX ls k = l := ⟨_, rfl⟩
      rw [show ls[k]?.getD 0 = l from hl] at cl
      obtain ⟨q, hq⟩ : ∃ q, cst x l = q := ⟨_, rfl⟩
      have hqb := cst_bd (lOk_at HV.out hx) l
      have hob := sum_bd6 HV.out ls (k := k) (by rw [HL.out]; omega)
      rw [hok.out] at hob
      rw [hq] at hqb
      have hv := fun w => l23Cost_any x l w
      rw [hq] at hv
      have hnx := Lib.hid (sumTo_succ hok.out hx hl hq)
      have hs := hB.size
      have hbr : b < wr.heap.size := by omega
      have hbr' : b' < wr.heap.size := by omega
      clear hcell hcell' hx hl hq
      go_wp2_with fail
      refine wp_region_cells [(b, off + k * 4, .int .i64 x.we), (b, off + k * 4 + 1, .int .i64 x.lo), (b, off + k * 4 + 2, .int .i64 x.mi), (b, off + k * 4 + 3, .int .i64 x.hi), (b', off' + k, .int .i64 l)] (by kernel_rfl) (by kernel_rfl) ?_ ?_
      · simp only [List.forall_mem_cons]
        exact ⟨by go_simp, by go_simp, by go_simp, by go_simp, by go_simp, by simp⟩
      intro hcs
      simp only [List.forall_mem_cons] at hcs
      obtain ⟨dc0, dc1, dc2, dc3, dc4, -⟩ := hcs
      repeat (any_goals (first | go_big_quiet_step (first | (go_at_call 49; exact BW.calls (Nat.le_refl _) _ (hv _))) | quiet_step (first | (go_at_call 49; exact BW.calls (Nat.le_refl _) _ (hv _)))))
      refine wpQuiet_nil ?_
      intro _ hw'
      obtain ⟨xw, hw''⟩ := hw'
      subst hw''
      have hbw := xw.2
      clear dc0 dc1 dc2 dc3 dc4
      generalize xw.1 = ww at hbw ⊢
      clear xw
      obtain ⟨kw, fw⟩ := bcell hbw
      have sw := hbw.size
      have hB2 : Below w.heap.size w ww := hB.trans (hbw.mono hs)
      go_wp2
      go_roundw
      case rel => exact ⟨k + 1, _, by omega, by go_num, rfl, hnx.out, hB2⟩
      case measure => simp [intOf]; omega
    · have hkn : k = n := by omega
      subst hkn
      go_wp2
      go_ret
      exact ⟨ret_int hok.out.symm, hB⟩

set_option maxHeartbeats 4000000 in
theorem l23Layers_any (A A' : Option Addr) (n m c c' : Nat) (xs : List Dm) (ls : List Int) (w : World) (h : Dms w w.heap.size A n xs) (h' : Ints w w.heap.size A' m ls) (hn : n ≤ 1099511627776) (hm : m ≤ 1099511627776) :
    Calls Try.prog 31 #[.slice A n c, .slice A' m c'] w fun e w' => e = .returned (.bool (shB xs ls)) ∧ Below w.heap.size w w' := by
  have HL := Lib.hid h.len
  have HM := Lib.hid h'.len
  go_enter Try.func31, Try.ntmps31
  go_wp2
  go_loopw [5] (fun i wr => ∃ k : Nat, k ≤ m ∧ i = .int .i64 k ∧ Hid (ysTo ls k) ∧ Below w.heap.size w wr) (fun i _ => m - (intOf i).toNat)
  case atStart => exact ⟨0, by omega, rfl, fun j hj => absurd hj (by omega), (by repeat (first | exact Below.refl _ _ | assumption | refine Below.setCell ?_ (by first | omega | (simp; done) | (simp; omega)) _ | refine Below.alloc ?_ (by first | omega | (simp; done) | (simp; omega)) _ | refine Below.drew ?_ | refine Below.drewN' ?_ _ | refine Below.trans ?_ (Below.mono (by assumption) (by first | omega | (simp; done) | (simp; omega)))))⟩
  case round =>
    obtain ⟨k, hk, rfl, hok, hB⟩ := hrel
    by_cases hlt : k < m
    · have e0 : decide (k < m) = true := by simpa using hlt
      obtain ⟨b', off', rfl, hb', hcell'⟩ := h'.at_ (by omega)
      have cl := (hB.cell (p := ⟨b', off' + k, none⟩) hb').trans (hcell' k hlt)
      obtain ⟨l, hl⟩ : ∃ l, lX ls k = l := ⟨_, rfl⟩
      rw [show ls[k]?.getD 0 = l from hl] at cl
      have hv := fun w => l6In_any l (-1) 2 w
      have hs := hB.size
      clear hcell'
      by_cases q : -1 ≤ l ∧ l ≤ 2
      · rw [show inB l (-1) 2 = true from decide_eq_true q] at hv
        have hnx := Lib.hid (ysTo_succ hok.out hl q.1 q.2)
        clear hl
        go_wp2_with (go_at_call 40; refine (hv _).mono ?_; rintro e w1 ⟨rfl, hb1⟩)
        go_roundw
        case rel => exact ⟨k + 1, by omega, by go_num, hnx.out, hB.trans (hb1.mono hs)⟩
        case measure => simp [intOf]; omega
      · rw [show inB l (-1) 2 = false from decide_eq_false q] at hv
        have hno := Lib.hid (shB_false (xs := xs) (ls := ls) fun hp => q (by rw [← hl]; exact hp.2.2 k (by rw [HM.out]; exact hlt)))
        clear hl
        go_wp2_with (go_at_call 40; refine (hv _).mono ?_; rintro e w1 ⟨rfl, hb1⟩)
        go_ret
        exact ⟨ret_bool hno.out.symm, hB.trans (hb1.mono hs)⟩
    · have hkn : k = m := by omega
      subst hkn
      have hs := hB.size
      have hv := sdv_any A n c xs wr ((h.below hB).more hs) hn
      by_cases q : lOk xs
      · rw [show lB xs = true from decide_eq_true q] at hv
        have key : Hid (shB xs ls = decide (n = k)) := by
          refine Lib.hid ?_
          by_cases e : n = k
          · rw [decide_eq_true e]; exact shB_true ⟨q, by rw [HL.out, HM.out, e], by rw [HM.out]; exact hok.out⟩
          · rw [decide_eq_false e]; exact shB_false fun hp => e (by rw [← HL.out, ← HM.out]; exact hp.2.1)
        go_wp2_with (go_at_call 48; refine hv.mono ?_; rintro e w1 ⟨rfl, hb1⟩)
        go_ret
        exact ⟨ret_bool (by rw [key.out]; first | exact decide_eq_decide.2 (by omega) | (simp; done)), hB.trans (hb1.mono hs)⟩
      · rw [show lB xs = false from decide_eq_false q] at hv
        have hno := Lib.hid (shB_false (xs := xs) (ls := ls) fun hp => q hp.1)
        go_wp2_with (go_at_call 48; refine hv.mono ?_; rintro e w1 ⟨rfl, hb1⟩)
        go_ret
        exact ⟨ret_bool hno.out.symm, hB.trans (hb1.mono hs)⟩

set_option maxHeartbeats 2000000 in
theorem scost_any (A A' : Option Addr) (n m c c' : Nat) (xs : List Dm) (ls : List Int) (w : World) (h : Dms w w.heap.size A n xs) (h' : Ints w w.heap.size A' m ls) (hn : n ≤ 1099511627776) (hm : m ≤ 1099511627776) :
    Calls Try.prog 14 #[.slice A n c, .slice A' m c'] w fun e w' => e = .returned (.int .i64 (costI xs ls)) ∧ Below w.heap.size w w' := by
  have HL := Lib.hid h.len
  have HM := Lib.hid h'.len
  have hv := l23Layers_any A A' n m c c' xs ls w h h' hn hm
  by_cases q : shOk xs ls
  · rw [shB_true q] at hv
    have hnm : n = m := by have := q.2.1; rw [HL.out, HM.out] at this; exact this
    subst hnm
    have hk := Lib.hid (costI_true q)
    go_enter Try.func14, Try.ntmps14
    go_wp2_with (first | (go_at_call 31; refine hv.mono ?_; rintro e w1 ⟨rfl, hb1⟩) | (go_at_call 32; refine (l23Sum_any A A' n c c' xs ls _ ((h.below hb1).more hb1.size) ((h'.below hb1).more hb1.size) q.1).mono ?_; rintro e w2 ⟨rfl, hb2⟩))
    go_ret
    exact ⟨ret_int (by rw [hk.out, HM.out]), hb1.trans (hb2.mono hb1.size)⟩
  · rw [shB_false q] at hv
    have hk := Lib.hid (costI_false q)
    go_enter Try.func14, Try.ntmps14
    go_wp2_with (first | (go_at_call 31; refine hv.mono ?_; rintro e w1 ⟨rfl, hb1⟩))
    go_ret
    exact ⟨ret_int hk.out.symm, hb1⟩

set_option maxHeartbeats 4000000 in
theorem icostS_any (A A' : Option Addr) (n m c c' : Nat) (xs : List Dm) (ls : List Int) (w : World) (h : Dms w w.heap.size A n xs) (h' : Ints w w.heap.size A' m ls) (hn : n ≤ 1099511627776) (hm : m ≤ 1099511627776) :
    Calls Try.prog 17 #[.slice A n c, .slice A' m c'] w fun e w' => e = .returned (.int .i64 (costI xs ls)) ∧ Below w.heap.size w w' := by
  have HL := Lib.hid h.len
  have HM := Lib.hid h'.len
  have hv := idv_any A n c xs w h hn
  by_cases q : lOk xs
  · rw [show lB xs = true from decide_eq_true q] at hv
    have hn6 : n ≤ 6 := by have := q.1; rw [HL.out] at this; exact this
    by_cases hnm : n = m
    · subst hnm
      have HV := Lib.hid q
      have e0 : ((n : Int) != n) = false := by simp
      clear q
      go_enter Try.func17, Try.ntmps17
      go_wp2_with (go_at_call 34; refine hv.mono ?_; rintro e w1 ⟨rfl, hb1⟩)
      go_loopw [5, 20] (fun osl i wr => ∃ (k : Nat) (o : Int), k ≤ n ∧ i = .int .i64 k ∧ osl = .int .i64 o ∧ Hid (sumTo xs ls k = o ∧ ysTo ls k) ∧ Below w.heap.size w wr) (fun _ i _ => n - (intOf i).toNat)
      case atStart => exact ⟨0, 0, by omega, rfl, rfl, ⟨rfl, fun j hj => absurd hj (by omega)⟩, hb1⟩
      case round =>
        obtain ⟨k, o, hk, rfl, rfl, hok, hB⟩ := hrel
        by_cases hlt : k < n
        · have e1 : decide (k < n) = true := by simpa using hlt
          obtain ⟨b, off, rfl, hb, hcell⟩ := h.addr (by omega)
          obtain ⟨b', off', rfl, hb', hcell'⟩ := h'.at_ (by omega)
          obtain ⟨x, hx⟩ : ∃ x, xs[k]? = some x := ⟨_, List.getElem?_eq_getElem (by rw [HL.out]; exact hlt)⟩
          obtain ⟨c0, c1, c2, c3⟩ := hcell k x hx
          replace c0 := (hB.cell (p := ⟨b, off + k * 4, none⟩) hb).trans c0
          replace c1 := (hB.cell (p := ⟨b, off + k * 4 + 1, none⟩) hb).trans c1
          replace c2 := (hB.cell (p := ⟨b, off + k * 4 + 2, none⟩) hb).trans c2
          replace c3 := (hB.cell (p := ⟨b, off + k * 4 + 3, none⟩) hb).trans c3
          have cl := (hB.cell (p := ⟨b', off' + k, none⟩) hb').trans (hcell' k hlt)
          obtain ⟨l, hl⟩ : ∃ l, lX ls k = l := ⟨_, rfl⟩
          rw [show ls[k]?.getD 0 = l from hl] at cl
          have hs := hB.size
          clear hcell hcell'
          by_cases q0 : l < -1
          · have hno := Lib.hid (costI_false (xs := xs) (ls := ls) fun hp => by have := hp.2.2 k (by rw [HM.out]; exact hlt); rw [hl] at this; omega)
            have e2 : decide (l < -1) = true := by simpa using q0
            clear hx hl
            go_wp2
            go_ret
            exact ⟨ret_int hno.out.symm, hB⟩
          have e2 : decide (l < -1) = false := by simpa using q0
          by_cases q1 : 2 < l
          · have hno := Lib.hid (costI_false (xs := xs) (ls := ls) fun hp => by have := hp.2.2 k (by rw [HM.out]; exact hlt); rw [hl] at this; omega)
            have e3 : decide (2 < l) = true := by simpa using q1
            clear hx hl
            go_wp2
            go_ret
            exact ⟨ret_int hno.out.symm, hB⟩
          have e3 : decide (2 < l) = false := by simpa using q1
          obtain ⟨r, hq⟩ : ∃ r, cst x l = r := ⟨_, rfl⟩
          have hqb := cst_bd (lOk_at HV.out hx) l
          have hob := sum_bd6 HV.out ls (k := k) (by rw [HL.out]; omega)
          rw [hok.out.1] at hob
          rw [hq] at hqb
          have hv := fun w => icost_any x l w
          rw [hq] at hv
          have hnx := Lib.hid (sumTo_succ hok.out.1 hx hl hq)
          have hny := Lib.hid (ysTo_succ hok.out.2 hl (by omega) (by omega))
          have hbr : b < wr.heap.size := by omega
          have hbr' : b' < wr.heap.size := by omega
          clear hx hl hq
          go_wp2_with (go_at_call 35; refine (hv _).mono ?_; rintro e w2 ⟨rfl, hb2⟩)
          go_roundw
          case rel => exact ⟨k + 1, _, by omega, by go_num, rfl, ⟨hnx.out, hny.out⟩, hB.trans (hb2.mono hs)⟩
          case measure => simp [intOf]; omega
        · have hkn : k = n := by omega
          subst hkn
          have hyes := Lib.hid (costI_true (xs := xs) (ls := ls) ⟨HV.out, by rw [HL.out, HM.out], by rw [HM.out]; exact hok.out.2⟩)
          go_wp2
          go_ret
          exact ⟨ret_int (by rw [hyes.out, HM.out]; exact hok.out.1.symm), hB⟩
    · have hno := Lib.hid (costI_false (xs := xs) (ls := ls) fun hp => hnm (by rw [← HL.out, ← HM.out]; exact hp.2.1))
      have e0 : ((m : Int) != n) = true := by simp; omega
      go_enter Try.func17, Try.ntmps17
      go_wp2_with (go_at_call 34; refine hv.mono ?_; rintro e w1 ⟨rfl, hb1⟩)
      go_ret
      exact ⟨ret_int hno.out.symm, hb1⟩
  · rw [show lB xs = false from decide_eq_false q] at hv
    have hno := Lib.hid (costI_false (xs := xs) (ls := ls) fun hp => q hp.1)
    go_enter Try.func17, Try.ntmps17
    go_wp2_with (go_at_call 34; refine hv.mono ?_; rintro e w1 ⟨rfl, hb1⟩)
    go_ret
    exact ⟨ret_int hno.out.symm, hb1⟩
end Go.Proofs.Ythkoafcbcnobhaa
