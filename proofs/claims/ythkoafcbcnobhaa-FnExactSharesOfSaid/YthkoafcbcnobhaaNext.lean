/-
  Which demand gets one layer more; whether nobody could get more: spec's l23Next, SharesFull; impl's oneMore, SharesFull.
  Conditions: as each theorem states them.
-/
import Derived.Test.YthkoafcbcnobhaaCost
namespace Go.Proofs.Ythkoafcbcnobhaa
open Go.RowKit
set_option linter.unusedVariables false
set_option linter.unusedSimpArgs false

def fit (xs : List Dm) (ls : List Int) (left : Int) (k : Nat) : Prop := lX ls k ≠ 2 ∧ stp (dX xs k) (lX ls k) ≤ left
instance (xs : List Dm) (ls : List Int) (left : Int) (k : Nat) : Decidable (fit xs ls left k) := by unfold fit; infer_instance
def ahd (xs : List Dm) (ls : List Int) (k j : Nat) : Prop := lX ls k < lX ls j ∨ (lX ls k = lX ls j ∧ (dX xs j).we < (dX xs k).we)
instance (xs : List Dm) (ls : List Int) (k j : Nat) : Decidable (ahd xs ls k j) := by unfold ahd; infer_instance
def nxt (xs : List Dm) (ls : List Int) (left : Int) : Nat → Int
  | 0 => -1
  | k + 1 => if fit xs ls left k ∧ (nxt xs ls left k < 0 ∨ ahd xs ls k (nxt xs ls left k).toNat) then k else nxt xs ls left k
theorem nxt_range (xs : List Dm) (ls : List Int) (left : Int) : ∀ k : Nat, -1 ≤ nxt xs ls left k ∧ nxt xs ls left k < k
  | 0 => by simp [nxt]
  | k + 1 => by
    have ih := nxt_range xs ls left k
    unfold nxt
    split <;> omega
theorem nxt_none (xs : List Dm) (ls : List Int) (left : Int) : ∀ k : Nat, (nxt xs ls left k < 0 ↔ ∀ j, j < k → ¬ fit xs ls left j)
  | 0 => ⟨fun _ j hj => absurd hj (by omega), fun _ => by simp [nxt]⟩
  | k + 1 => by
    have ih := nxt_none xs ls left k
    unfold nxt
    constructor
    · intro h j hj
      split at h
      · omega
      · rename_i hc
        have h1 := ih.1 h
        by_cases e : j = k
        · subst e
          intro hf
          exact hc ⟨hf, .inl h⟩
        · exact h1 j (by omega)
    · intro h
      rw [if_neg fun hc => h k (by omega) hc.1]
      exact ih.2 fun j hj => h j (by omega)
theorem nxt_skip {xs : List Dm} {ls : List Int} {left : Int} {k : Nat} {o : Int} (h : nxt xs ls left k = o) (hc : ¬ (fit xs ls left k ∧ (o < 0 ∨ ahd xs ls k o.toNat))) : nxt xs ls left (k + 1) = o := by
  subst h
  show (if _ then _ else _) = _
  rw [if_neg hc]
theorem nxt_take {xs : List Dm} {ls : List Int} {left : Int} {k : Nat} {o : Int} (h : nxt xs ls left k = o) (hc : fit xs ls left k ∧ (o < 0 ∨ ahd xs ls k o.toNat)) : nxt xs ls left (k + 1) = k := by
  subst h
  show (if _ then _ else _) = _
  rw [if_pos hc]
theorem fit_iff {xs : List Dm} {ls : List Int} {left : Int} {k : Nat} {x : Dm} {l s : Int} (hx : xs[k]? = some x) (hl : lX ls k = l) (hs : stp x l = s) : fit xs ls left k ↔ l ≠ 2 ∧ s ≤ left := by
  unfold fit
  rw [dX_of hx, hl, hs]
theorem ahd_iff {xs : List Dm} {ls : List Int} {k j : Nat} {x y : Dm} {l m : Int} (hx : xs[k]? = some x) (hl : lX ls k = l) (hy : xs[j]? = some y) (hm : lX ls j = m) : ahd xs ls k j ↔ l < m ∨ (l = m ∧ y.we < x.we) := by
  unfold ahd
  rw [dX_of hx, hl, dX_of hy, hm]
theorem no_succ {P : Nat → Prop} {k : Nat} (h : ∀ j, j < k → ¬ P j) (hk : ¬ P k) : ∀ j, j < k + 1 → ¬ P j := by
  intro j hj
  by_cases e : j = k
  · subst e; exact hk
  · exact h j (by omega)
theorem stp_bd {x : Dm} (h : dOk x) (l : Int) : -9999 ≤ stp x l ∧ stp x l ≤ 9999 := by
  have b0 := cst_bd h l
  have b1 := cst_bd h (l + 1)
  unfold stp
  omega

set_option maxHeartbeats 8000000 in
theorem l23Next_any (A A' : Option Addr) (n c c' : Nat) (xs : List Dm) (ls : List Int) (left : Int) (w : World) (h : Dms w w.heap.size A n xs) (h' : Ints w w.heap.size A' n ls) (hv : lOk xs) (hy : ysTo ls n) :
    Calls Try.prog 41 #[.slice A n c, .slice A' n c', .int .i64 left] w fun e w' => e = .returned (.int .i64 (nxt xs ls left n)) ∧ Below w.heap.size w w' := by
  have HL := Lib.hid h.len
  have HV := Lib.hid hv
  have HY := Lib.hid hy
  have hn : n ≤ 6 := by have := hv.1; rw [HL.out] at this; exact this
  clear hv hy
  go_enter Try.func41, Try.ntmps41
  go_wp2
  go_loopw [7, 8] (fun osl i wr => ∃ (k : Nat) (o : Int), k ≤ n ∧ i = .int .i64 k ∧ osl = .int .i64 o ∧ Hid (nxt xs ls left k = o) ∧ Below w.heap.size w wr) (fun _ i _ => n - (intOf i).toNat)
  case atStart => exact ⟨0, -1, by omega, rfl, rfl, rfl, (by repeat (first | exact Below.refl _ _ | assumption | refine Below.setCell ?_ (by first | omega | (simp; done) | (simp; omega)) _ | refine Below.alloc ?_ (by first | omega | (simp; done) | (simp; omega)) _ | refine Below.drew ?_ | refine Below.drewN' ?_ _ | refine Below.trans ?_ (Below.mono (by assumption) (by first | omega | (simp; done) | (simp; omega)))))⟩
  case round =>
    obtain ⟨k, o, hk, rfl, rfl, hok, hB⟩ := hrel
    by_cases hlt : k < n
    · have e0 : decide (k < n) = true := by simpa using hlt
      obtain ⟨b, off, rfl, hb, hcell⟩ := h.addr (by omega)
      obtain ⟨b', off', rfl, hb', hcell'⟩ := h'.at_ (by omega)
      obtain ⟨x, hx⟩ : ∃ x, xs[k]? = some x := ⟨_, List.getElem?_eq_getElem (by rw [HL.out]; exact hlt)⟩
      obtain ⟨c0, c1, c2, c3⟩ := hcell k x hx
      replace c0 := (hB.cell (p := ⟨b, off + k * 4, none⟩) hb).trans c0
      replace c1 := (hB.cell (p := ⟨b, off + k * 4 + 1, none⟩) hb).trans c1
      replace c2 := (hB.cell (p := ⟨b, off + k * 4 + 2, none⟩) hb).trans c2
      replace c3 := (hB.cell (p := ⟨b, off + k * 4 + 3, none⟩) hb).trans c3
      have cl := (hB.cell (p := ⟨b', off' + k, none⟩) hb').trans (hcell' k hlt)
      obtain ⟨l, hl⟩ : ∃ l, lX ls k = l := ⟨_, rfl⟩
      rw [show ls[k]?.getD 0 = l from hl] at cl
      have hs := hB.size
      have hbr : b < wr.heap.size := by omega
      have hbr' : b' < wr.heap.size := by omega
      have HX := Lib.hid hx
      have HLk := Lib.hid hl
      have HC := Lib.hid hcell
      have HC' := Lib.hid hcell'
      clear hcell hcell' hx hl
      have hor := nxt_range xs ls left k
      rw [hok.out] at hor
      have hyk := HY.out k hlt
      rw [HLk.out] at hyk
      by_cases h2 : l = 2
      · have hnx := Lib.hid (nxt_skip hok.out (by rw [fit_iff HX.out HLk.out rfl]; exact fun hc => hc.1.1 h2))
        subst h2
        go_wp2_with fail
        refine wp_region_cells [(b', off' + k, .int .i64 2)] (by kernel_rfl) (by kernel_rfl) ?_ ?_
        · simp only [List.forall_mem_cons]
          exact ⟨by go_simp, by simp⟩
        intro hcs
        simp only [List.forall_mem_cons] at hcs
        obtain ⟨dc0, -⟩ := hcs
        repeat (any_goals (first | go_big_quiet_step (fail) | quiet_step (fail)))
        refine wpQuiet_nil ?_
        intro _ hw'
        obtain ⟨xw, hw''⟩ := hw'
        subst hw''
        have hbw := xw.2
        clear dc0
        generalize xw.1 = ww at hbw ⊢
        clear xw
        obtain ⟨kw, fw⟩ := bcell hbw
        have sw := hbw.size
        have hB2 : Below w.heap.size w ww := hB.trans (hbw.mono hs)
        go_wp2
        go_roundw
        case rel => exact ⟨k + 1, _, by omega, by go_num, rfl, hnx.out, hB2⟩
        case measure => simp [intOf]; omega
      have e2 : (l == 2) = false := by simpa using h2
      obtain ⟨s, hst⟩ : ∃ s, stp x l = s := ⟨_, rfl⟩
      have hv := fun w => l23Step_any x l w (lOk_at HV.out HX.out) hyk.1 hyk.2
      have hsb := stp_bd (lOk_at HV.out HX.out) l
      rw [hst] at hv hsb
      have hfi := Lib.hid (fit_iff (left := left) HX.out HLk.out hst)
      clear hst
      by_cases hf : left < s
      · have e3 : decide (left < s) = true := by simpa using hf
        have hnx := Lib.hid (nxt_skip hok.out (by rw [hfi.out]; exact fun hc => by have := hc.1.2; omega))
        go_wp2_with fail
        refine wp_region_cells [(b, off + k * 4, .int .i64 x.we), (b, off + k * 4 + 1, .int .i64 x.lo), (b, off + k * 4 + 2, .int .i64 x.mi), (b, off + k * 4 + 3, .int .i64 x.hi), (b', off' + k, .int .i64 l)] (by kernel_rfl) (by kernel_rfl) ?_ ?_
        · simp only [List.forall_mem_cons]
          exact ⟨by go_simp, by go_simp, by go_simp, by go_simp, by go_simp, by simp⟩
        intro hcs
        simp only [List.forall_mem_cons] at hcs
        obtain ⟨dc0, dc1, dc2, dc3, dc4, -⟩ := hcs
        repeat (any_goals (first | go_big_quiet_step (first | (go_at_call 51; exact BW.calls (Nat.le_refl _) _ (hv _))) | quiet_step (first | (go_at_call 51; exact BW.calls (Nat.le_refl _) _ (hv _)))))
        refine wpQuiet_nil ?_
        intro _ hw'
        obtain ⟨xw, hw''⟩ := hw'
        subst hw''
        have hbw := xw.2
        clear dc0 dc1 dc2 dc3 dc4
        generalize xw.1 = ww at hbw ⊢
        clear xw
        obtain ⟨kw, fw⟩ := bcell hbw
        have sw := hbw.size
        have hB2 : Below w.heap.size w ww := hB.trans (hbw.mono hs)
        go_wp2
        go_roundw
        case rel => exact ⟨k + 1, _, by omega, by go_num, rfl, hnx.out, hB2⟩
        case measure => simp [intOf]; omega
      have e3 : decide (left < s) = false := by simpa using hf
      go_wp2_with fail
      refine wp_region_cells [(b, off + k * 4, .int .i64 x.we), (b, off + k * 4 + 1, .int .i64 x.lo), (b, off + k * 4 + 2, .int .i64 x.mi), (b, off + k * 4 + 3, .int .i64 x.hi), (b', off' + k, .int .i64 l)] (by kernel_rfl) (by kernel_rfl) ?_ ?_
      · simp only [List.forall_mem_cons]
        exact ⟨by go_simp, by go_simp, by go_simp, by go_simp, by go_simp, by simp⟩
      intro hcs
      simp only [List.forall_mem_cons] at hcs
      obtain ⟨dc0, dc1, dc2, dc3, dc4, -⟩ := hcs
      repeat (any_goals (first | go_big_quiet_step (first | (go_at_call 51; exact BW.calls (Nat.le_refl _) _ (hv _))) | quiet_step (first | (go_at_call 51; exact BW.calls (Nat.le_refl _) _ (hv _)))))
      refine wpQuiet_nil ?_
      intro _ hw'
      obtain ⟨xw, hw''⟩ := hw'
      subst hw''
      have hbw := xw.2
      clear dc0 dc1 dc2 dc3 dc4
      generalize xw.1 = ww at hbw ⊢
      clear xw
      obtain ⟨kw, fw⟩ := bcell hbw
      have sw := hbw.size
      have hB2 : Below w.heap.size w ww := hB.trans (hbw.mono hs)
      replace c0 : ww.cell? ⟨b, off + k * 4, none⟩ = _ := (hbw.cell (p := ⟨b, off + k * 4, none⟩) hbr).trans c0
      replace cl : ww.cell? ⟨b', off' + k, none⟩ = _ := (hbw.cell (p := ⟨b', off' + k, none⟩) hbr').trans cl
      have hs2 : wr.heap.size ≤ ww.heap.size := hbw.size
      clear c1 c2 c3 hv kw fw
      by_cases ho : o < 0
      · have e4 : decide (o < 0) = true := by simpa using ho
        have hnx := Lib.hid (nxt_take hok.out ⟨hfi.out.2 ⟨h2, by omega⟩, .inl ho⟩)
        clear hbw
        go_wp2_with fail
        refine wp_region_cells [(b', off' + k, .int .i64 l)] (by kernel_rfl) (by kernel_rfl) ?_ ?_
        · simp only [List.forall_mem_cons]
          exact ⟨by go_simp, by simp⟩
        intro hcs
        simp only [List.forall_mem_cons] at hcs
        obtain ⟨dc0, -⟩ := hcs
        repeat (any_goals (first | go_big_quiet_step (fail) | quiet_step (fail)))
        refine wpQuiet_nil ?_
        intro _ hw'
        obtain ⟨xw, hw''⟩ := hw'
        subst hw''
        have hbw := xw.2
        clear dc0
        generalize xw.1 = ww at hbw ⊢
        clear xw
        obtain ⟨kw, fw⟩ := bcell hbw
        have sw := hbw.size
        have hB3 := hB2.trans (hbw.mono hB2.size)
        go_wp2
        go_roundw
        case rel => exact ⟨k + 1, _, by omega, by go_num, rfl, hnx.out, hB3⟩
        case measure => simp [intOf]; omega
      obtain ⟨j, rfl⟩ := Int.eq_ofNat_of_zero_le (show 0 ≤ o by omega)
      have e4 : decide ((j : Int) < 0) = false := by simp
      have hjn : j < n := by omega
      obtain ⟨y, hy⟩ : ∃ y, xs[j]? = some y := ⟨_, List.getElem?_eq_getElem (by rw [HL.out]; exact hjn)⟩
      obtain ⟨d0, -, -, -⟩ := HC.out j y hy
      replace d0 := (hB2.cell (p := ⟨b, off + j * 4, none⟩) hb).trans d0
      have dl := (hB2.cell (p := ⟨b', off' + j, none⟩) hb').trans (HC'.out j hjn)
      obtain ⟨m, hm⟩ : ∃ m, lX ls j = m := ⟨_, rfl⟩
      rw [show ls[j]?.getD 0 = m from hm] at dl
      have hai := Lib.hid (ahd_iff HX.out HLk.out hy hm)
      clear hy hm hbw
      by_cases hq : l < m
      · have e5 : decide (l < m) = true := by simpa using hq
        have hnx := Lib.hid (nxt_take hok.out ⟨hfi.out.2 ⟨h2, by omega⟩, .inr (hai.out.2 (.inl hq))⟩)
        go_wp2_with fail
        refine wp_region_cells [(b', off' + k, .int .i64 l), (b', off' + j, .int .i64 m)] (by kernel_rfl) (by kernel_rfl) ?_ ?_
        · simp only [List.forall_mem_cons]
          exact ⟨by go_simp, by go_simp, by simp⟩
        intro hcs
        simp only [List.forall_mem_cons] at hcs
        obtain ⟨dc0, dc1, -⟩ := hcs
        repeat (any_goals (first | go_big_quiet_step (fail) | quiet_step (fail)))
        refine wpQuiet_nil ?_
        intro _ hw'
        obtain ⟨xw, hw''⟩ := hw'
        subst hw''
        have hbw := xw.2
        clear dc0 dc1
        generalize xw.1 = ww at hbw ⊢
        clear xw
        obtain ⟨kw, fw⟩ := bcell hbw
        have sw := hbw.size
        have hB3 := hB2.trans (hbw.mono hB2.size)
        go_wp2
        go_roundw
        case rel => exact ⟨k + 1, _, by omega, by go_num, rfl, hnx.out, hB3⟩
        case measure => simp [intOf]; omega
      have e5 : decide (l < m) = false := by simpa using hq
      by_cases he : l = m
      · subst he
        by_cases hwe : y.we < x.we
        · have e6 : decide (y.we < x.we) = true := by simpa using hwe
          have hnx := Lib.hid (nxt_take hok.out ⟨hfi.out.2 ⟨h2, by omega⟩, .inr (hai.out.2 (.inr ⟨rfl, hwe⟩))⟩)
          go_wp2_with fail
          refine wp_region_cells [(b', off' + k, .int .i64 l), (b', off' + j, .int .i64 l), (b, off + k * 4, .int .i64 x.we), (b, off + j * 4, .int .i64 y.we)] (by kernel_rfl) (by kernel_rfl) ?_ ?_
          · simp only [List.forall_mem_cons]
            exact ⟨by go_simp, by go_simp, by go_simp, by go_simp, by simp⟩
          intro hcs
          simp only [List.forall_mem_cons] at hcs
          obtain ⟨dc0, dc1, dc2, dc3, -⟩ := hcs
          repeat (any_goals (first | go_big_quiet_step (fail) | quiet_step (fail)))
          refine wpQuiet_nil ?_
          intro _ hw'
          obtain ⟨xw, hw''⟩ := hw'
          subst hw''
          have hbw := xw.2
          clear dc0 dc1 dc2 dc3
          generalize xw.1 = ww at hbw ⊢
          clear xw
          obtain ⟨kw, fw⟩ := bcell hbw
          have sw := hbw.size
          have hB3 := hB2.trans (hbw.mono hB2.size)
          go_wp2
          go_roundw
          case rel => exact ⟨k + 1, _, by omega, by go_num, rfl, hnx.out, hB3⟩
          case measure => simp [intOf]; omega
        · have e6 : decide (y.we < x.we) = false := by simpa using hwe
          have hnx := Lib.hid (nxt_skip hok.out (by rintro ⟨-, hc | hc⟩; omega; rcases hai.out.1 hc with hc | hc; omega; exact hwe hc.2))
          go_wp2_with fail
          refine wp_region_cells [(b', off' + k, .int .i64 l), (b', off' + j, .int .i64 l), (b, off + k * 4, .int .i64 x.we), (b, off + j * 4, .int .i64 y.we)] (by kernel_rfl) (by kernel_rfl) ?_ ?_
          · simp only [List.forall_mem_cons]
            exact ⟨by go_simp, by go_simp, by go_simp, by go_simp, by simp⟩
          intro hcs
          simp only [List.forall_mem_cons] at hcs
          obtain ⟨dc0, dc1, dc2, dc3, -⟩ := hcs
          repeat (any_goals (first | go_big_quiet_step (fail) | quiet_step (fail)))
          refine wpQuiet_nil ?_
          intro _ hw'
          obtain ⟨xw, hw''⟩ := hw'
          subst hw''
          have hbw := xw.2
          clear dc0 dc1 dc2 dc3
          generalize xw.1 = ww at hbw ⊢
          clear xw
          obtain ⟨kw, fw⟩ := bcell hbw
          have sw := hbw.size
          have hB3 := hB2.trans (hbw.mono hB2.size)
          go_wp2
          go_roundw
          case rel => exact ⟨k + 1, _, by omega, by go_num, rfl, hnx.out, hB3⟩
          case measure => simp [intOf]; omega
      · have e6 : (l == m) = false := by simpa using he
        have hnx := Lib.hid (nxt_skip hok.out (by rintro ⟨-, hc | hc⟩; omega; rcases hai.out.1 hc with hc | hc; omega; exact he hc.1))
        go_wp2_with fail
        refine wp_region_cells [(b', off' + k, .int .i64 l), (b', off' + j, .int .i64 m)] (by kernel_rfl) (by kernel_rfl) ?_ ?_
        · simp only [List.forall_mem_cons]
          exact ⟨by go_simp, by go_simp, by simp⟩
        intro hcs
        simp only [List.forall_mem_cons] at hcs
        obtain ⟨dc0, dc1, -⟩ := hcs
        repeat (any_goals (first | go_big_quiet_step (fail) | quiet_step (fail)))
        refine wpQuiet_nil ?_
        intro _ hw'
        obtain ⟨xw, hw''⟩ := hw'
        subst hw''
        have hbw := xw.2
        clear dc0 dc1
        generalize xw.1 = ww at hbw ⊢
        clear xw
        obtain ⟨kw, fw⟩ := bcell hbw
        have sw := hbw.size
        have hB3 := hB2.trans (hbw.mono hB2.size)
        go_wp2
        go_roundw
        case rel => exact ⟨k + 1, _, by omega, by go_num, rfl, hnx.out, hB3⟩
        case measure => simp [intOf]; omega
    · have hkn : k = n := by omega
      subst hkn
      go_wp2
      go_ret
      exact ⟨ret_int hok.out.symm, hB⟩

def fullP (xs : List Dm) (ls : List Int) (bud : Int) : Prop := shOk xs ls ∧ sumTo xs ls ls.length ≤ bud ∧ bud ≤ 999999 ∧ ∀ j, j < ls.length → ¬ fit xs ls (bud - sumTo xs ls ls.length) j
noncomputable def fullB (xs : List Dm) (ls : List Int) (bud : Int) : Bool := @decide (fullP xs ls bud) (Classical.propDecidable _)
theorem fullB_true {xs : List Dm} {ls : List Int} {bud : Int} (h : fullP xs ls bud) : fullB xs ls bud = true := by unfold fullB; exact (@decide_eq_true_iff _ (Classical.propDecidable _)).2 h
theorem fullB_false {xs : List Dm} {ls : List Int} {bud : Int} (h : ¬ fullP xs ls bud) : fullB xs ls bud = false := by unfold fullB; exact (@decide_eq_false_iff_not _ (Classical.propDecidable _)).2 h

set_option maxHeartbeats 4000000 in
theorem sfull_any (A A' : Option Addr) (n m c c' : Nat) (xs : List Dm) (ls : List Int) (bud : Int) (w : World) (h : Dms w w.heap.size A n xs) (h' : Ints w w.heap.size A' m ls) (hn : n ≤ 1099511627776) (hm : m ≤ 1099511627776) :
    Calls Try.prog 23 #[.slice A n c, .slice A' m c', .int .i64 bud] w fun e w' => e = .returned (.bool (fullB xs ls bud)) ∧ Below w.heap.size w w' := by
  have HL := Lib.hid h.len
  have HM := Lib.hid h'.len
  have hv := scost_any A A' n m c c' xs ls w h h' hn hm
  by_cases q : shOk xs ls
  · have hnm : n = m := by have := q.2.1; rw [HL.out, HM.out] at this; exact this
    subst hnm
    rw [costI_true q] at hv
    obtain ⟨s, hs⟩ : ∃ s, sumTo xs ls ls.length = s := ⟨_, rfl⟩
    have hsb := sum_bd6 q.1 ls (k := ls.length) (by rw [HL.out, HM.out]; omega)
    rw [hs] at hv hsb
    have e0 : decide (0 ≤ s) = true := by simpa using hsb.1
    have HQ := Lib.hid q
    clear q
    have hv2 := fun w => l6In_any bud s 999999 w
    by_cases hb : s ≤ bud ∧ bud ≤ 999999
    · rw [show inB bud s 999999 = true from decide_eq_true hb] at hv2
      have hv3 := fun w hd hi => l23Next_any A A' n c c' xs ls (bud - s) w hd hi HQ.out.1 (by have := HQ.out.2.2; rw [HM.out] at this; exact this)
      obtain ⟨o, ho⟩ : ∃ o, nxt xs ls (bud - s) n = o := ⟨_, rfl⟩
      have hor := nxt_range xs ls (bud - s) n
      have hno := nxt_none xs ls (bud - s) n
      rw [ho] at hv3 hor hno
      have key : Hid (fullB xs ls bud = decide (o < 0)) := by
        refine Lib.hid ?_
        by_cases e : o < 0
        · rw [decide_eq_true e]
          exact fullB_true ⟨HQ.out, by rw [hs]; exact hb.1, hb.2, by rw [hs, HM.out]; exact hno.1 e⟩
        · rw [decide_eq_false e]
          exact fullB_false fun hp => e (hno.2 (by have := hp.2.2.2; rw [hs, HM.out] at this; exact this))
      clear hno hs ho
      have HV3 := Lib.hid hv3
      clear hv3
      go_enter Try.func23, Try.ntmps23
      go_wp2_with (first | (go_at_call 14; refine hv.mono ?_; rintro e w1 ⟨rfl, hb1⟩) | (go_at_call 40; refine (hv2 _).mono ?_; rintro e w2 ⟨rfl, hb2⟩; have hb12 := hb1.trans (hb2.mono hb1.size)) | (go_at_call 41; refine (HV3.out _ ((h.below hb12).more hb12.size) ((h'.below hb12).more hb12.size)).mono ?_; rintro e w3 ⟨rfl, hb3⟩))
      go_ret
      exact ⟨ret_bool key.out.symm, hb12.trans (hb3.mono hb12.size)⟩
    · rw [show inB bud s 999999 = false from decide_eq_false hb] at hv2
      have key := Lib.hid (fullB_false (xs := xs) (ls := ls) (bud := bud) fun hp => hb ⟨by have := hp.2.1; rw [hs] at this; exact this, hp.2.2.1⟩)
      clear hs
      go_enter Try.func23, Try.ntmps23
      go_wp2_with (first | (go_at_call 14; refine hv.mono ?_; rintro e w1 ⟨rfl, hb1⟩) | (go_at_call 40; refine (hv2 _).mono ?_; rintro e w2 ⟨rfl, hb2⟩; have hb12 := hb1.trans (hb2.mono hb1.size)))
      go_ret
      exact ⟨ret_bool key.out.symm, hb12⟩
  · rw [costI_false q] at hv
    have key := Lib.hid (fullB_false (xs := xs) (ls := ls) (bud := bud) fun hp => q hp.1)
    go_enter Try.func23, Try.ntmps23
    go_wp2_with (first | (go_at_call 14; refine hv.mono ?_; rintro e w1 ⟨rfl, hb1⟩))
    go_ret
    exact ⟨ret_bool key.out.symm, hb1⟩

/-- What 'oneMore' answers. -/
def omV (x : Dm) (l : Int) : Value := if 2 ≤ l then .tuple #[.int .i64 0, .bool false] else .tuple #[.int .i64 (stp x l), .bool true]
set_option maxHeartbeats 2000000 in
theorem om_top (x : Dm) (l : Int) (w : World) (h1 : 2 ≤ l) : Calls Try.prog 39 #[.agg #[.int .i64 x.we, .int .i64 x.lo, .int .i64 x.mi, .int .i64 x.hi], .int .i64 l] w fun e w' => e = .returned (.tuple #[.int .i64 0, .bool false]) ∧ Below w.heap.size w w' := by
  have e0 : decide (2 ≤ l) = true := by simpa using h1
  go_enter Try.func39, Try.ntmps39
  go_wp2
  go_ret2
  exact ⟨rfl, (by repeat (first | exact Below.refl _ _ | assumption | refine Below.setCell ?_ (by first | omega | (simp; done) | (simp; omega)) _ | refine Below.alloc ?_ (by first | omega | (simp; done) | (simp; omega)) _ | refine Below.drew ?_ | refine Below.drewN' ?_ _ | refine Below.trans ?_ (Below.mono (by assumption) (by first | omega | (simp; done) | (simp; omega)))))⟩
set_option maxHeartbeats 2000000 in
theorem om_any (x : Dm) (l : Int) (w : World) (hx : dOk x) (h0 : -1 ≤ l) (h1 : l < 2) : Calls Try.prog 39 #[.agg #[.int .i64 x.we, .int .i64 x.lo, .int .i64 x.mi, .int .i64 x.hi], .int .i64 l] w fun e w' => e = .returned (.tuple #[.int .i64 (stp x l), .bool true]) ∧ Below w.heap.size w w' := by
  have e0 : decide (2 ≤ l) = false := by simp; omega
  have b0 := cst_bd hx l
  have b1 := cst_bd hx (l + 1)
  have v0 := fun w => icost_any x l w
  have v1 := fun w => icost_any x (l + 1) w
  have hst : stp x l = cst x (l + 1) - cst x l := rfl
  generalize stp x l = s at hst ⊢
  generalize cst x l = q0 at *
  generalize cst x (l + 1) = q1 at *
  subst hst
  go_enter Try.func39, Try.ntmps39
  go_wp2_with fail
  have hD := Bk.new w 46 #[.int .i64 x.we, .int .i64 x.lo, .int .i64 x.mi, .int .i64 x.hi]
  have hBa : Below w.heap.size w (w.alloc (.cells #[.int .i64 x.we, .int .i64 x.lo, .int .i64 x.mi, .int .i64 x.hi] 46)) := (Below.refl _ _).alloc (Nat.le_refl _) _
  generalize (w.alloc (.cells #[.int .i64 x.we, .int .i64 x.lo, .int .i64 x.mi, .int .i64 x.hi] 46)) = wa at hD hBa ⊢
  generalize hg : w.heap.size = g at *
  (try clear hD_c0); (try clear hD_f0)
  (try clear hD_c1); (try clear hD_f1)
  (try clear hD_c2); (try clear hD_f2)
  (try clear hD_c3); (try clear hD_f3)
  (try clear hD_lt)
  have hD_lt := hD.lt; (try simp only [World.size_alloc] at hD_lt)
  have hD_c0 := hD.cell 0; have hD_f0 := hD.frozen 0
  have hD_c1 := hD.cell 1; have hD_f1 := hD.frozen 1
  have hD_c2 := hD.cell 2; have hD_f2 := hD.frozen 2
  have hD_c3 := hD.cell 3; have hD_f3 := hD.frozen 3
  simp only [List.getElem?_toArray, List.getElem?_cons_zero, List.getElem?_cons_succ] at hD_c0 hD_c1 hD_c2 hD_c3
  refine wp_region_cells [(g, 0, .int .i64 x.we), (g, 1, .int .i64 x.lo), (g, 2, .int .i64 x.mi), (g, 3, .int .i64 x.hi)] (by kernel_rfl) (by kernel_rfl) ?_ ?_
  · simp only [List.forall_mem_cons]
    exact ⟨by go_simp, by go_simp, by go_simp, by go_simp, by simp⟩
  intro hcs
  simp only [List.forall_mem_cons] at hcs
  obtain ⟨dc0, dc1, dc2, dc3, -⟩ := hcs
  repeat (any_goals (first | go_big_quiet_step (first | (go_at_call 35; first | (with_reducible exact BW.calls (Nat.le_refl _) _ (v0 _)) | (with_reducible exact BW.calls (Nat.le_refl _) _ (v1 _)))) | quiet_step (first | (go_at_call 35; first | (with_reducible exact BW.calls (Nat.le_refl _) _ (v0 _)) | (with_reducible exact BW.calls (Nat.le_refl _) _ (v1 _))))))
  refine wpQuiet_nil ?_
  intro _ hw'
  obtain ⟨xw, hw''⟩ := hw'
  subst hw''
  have hbw := xw.2
  clear dc0 dc1 dc2 dc3
  generalize xw.1 = ww at hbw ⊢
  clear xw
  obtain ⟨kw, fw⟩ := bcell hbw
  have sw := hbw.size
  go_wp2
  go_ret2
  subst hg
  exact ⟨rfl, hBa.trans (hbw.mono hBa.size)⟩

set_option maxHeartbeats 4000000 in
theorem ifull_any (A A' : Option Addr) (n m c c' : Nat) (xs : List Dm) (ls : List Int) (bud : Int) (w : World) (h : Dms w w.heap.size A n xs) (h' : Ints w w.heap.size A' m ls) (hn : n ≤ 1099511627776) (hm : m ≤ 1099511627776) :
    Calls Try.prog 22 #[.slice A n c, .slice A' m c', .int .i64 bud] w fun e w' => e = .returned (.bool (fullB xs ls bud)) ∧ Below w.heap.size w w' := by
  have HL := Lib.hid h.len
  have HM := Lib.hid h'.len
  have hv := icostS_any A A' n m c c' xs ls w h h' hn hm
  by_cases q : shOk xs ls
  · have hnm : n = m := by have := q.2.1; rw [HL.out, HM.out] at this; exact this
    subst hnm
    have hn6 : n ≤ 6 := by have := q.1.1; rw [HL.out] at this; exact this
    rw [costI_true q] at hv
    obtain ⟨s, hs⟩ : ∃ s, sumTo xs ls ls.length = s := ⟨_, rfl⟩
    have hsb := sum_bd6 q.1 ls (k := ls.length) (by rw [HL.out, HM.out]; omega)
    rw [hs] at hv hsb
    have e0 : decide (s < 0) = false := by simp; omega
    have HQ := Lib.hid q
    clear q
    have HS := Lib.hid hs
    clear hs
    by_cases hb0 : 999999 < bud
    · have e1 : decide (999999 < bud) = true := by simpa using hb0
      have key := Lib.hid (fullB_false (xs := xs) (ls := ls) (bud := bud) fun hp => by have := hp.2.2.1; omega)
      go_enter Try.func22, Try.ntmps22
      go_wp2_with (first | (go_at_call 17; refine hv.mono ?_; rintro e w1 ⟨rfl, hb1⟩))
      go_ret
      exact ⟨ret_bool key.out.symm, hb1⟩
    have e1 : decide (999999 < bud) = false := by simpa using hb0
    by_cases hb2 : bud < s
    · have e2 : decide (bud < s) = true := by simpa using hb2
      have key := Lib.hid (fullB_false (xs := xs) (ls := ls) (bud := bud) fun hp => by have := hp.2.1; rw [HS.out] at this; omega)
      go_enter Try.func22, Try.ntmps22
      go_wp2_with (first | (go_at_call 17; refine hv.mono ?_; rintro e w1 ⟨rfl, hb1⟩))
      go_ret
      exact ⟨ret_bool key.out.symm, hb1⟩
    have e2 : decide (bud < s) = false := by simpa using hb2
    go_enter Try.func22, Try.ntmps22
    go_wp2_with (first | (go_at_call 17; refine hv.mono ?_; rintro e w1 ⟨rfl, hb1⟩))
    go_loopw [28] (fun i wr => ∃ (k : Nat), k ≤ n ∧ i = .int .i64 k ∧ Hid (∀ j, j < k → ¬ fit xs ls (bud - s) j) ∧ Below w.heap.size w wr) (fun i _ => n - (intOf i).toNat)
    case atStart => exact ⟨0, by omega, rfl, fun j hj => absurd hj (by omega), hb1⟩
    case round =>
      obtain ⟨k, hk, rfl, hok, hB⟩ := hrel
      by_cases hlt : k < n
      · have e3 : decide (k < n) = true := by simpa using hlt
        obtain ⟨b, off, rfl, hb, hcell⟩ := h.addr (by omega)
        obtain ⟨b', off', rfl, hb', hcell'⟩ := h'.at_ (by omega)
        obtain ⟨x, hx⟩ : ∃ x, xs[k]? = some x := ⟨_, List.getElem?_eq_getElem (by rw [HL.out]; exact hlt)⟩
        obtain ⟨c0, c1, c2, c3⟩ := hcell k x hx
        replace c0 := (hB.cell (p := ⟨b, off + k * 4, none⟩) hb).trans c0
        replace c1 := (hB.cell (p := ⟨b, off + k * 4 + 1, none⟩) hb).trans c1
        replace c2 := (hB.cell (p := ⟨b, off + k * 4 + 2, none⟩) hb).trans c2
        replace c3 := (hB.cell (p := ⟨b, off + k * 4 + 3, none⟩) hb).trans c3
        have cl := (hB.cell (p := ⟨b', off' + k, none⟩) hb').trans (hcell' k hlt)
        obtain ⟨l, hl⟩ : ∃ l, lX ls k = l := ⟨_, rfl⟩
        rw [show ls[k]?.getD 0 = l from hl] at cl
        have hs := hB.size
        have hbr : b < wr.heap.size := by omega
        have hbr' : b' < wr.heap.size := by omega
        have HX := Lib.hid hx
        have HLk := Lib.hid hl
        have HC := Lib.hid hcell
        have HC' := Lib.hid hcell'
        clear hcell hcell' hx hl
        have hyk := HQ.out.2.2 k (by rw [HM.out]; exact hlt)
        rw [HLk.out] at hyk
        by_cases h2 : 2 ≤ l
        · have hnx := Lib.hid (no_succ hok.out (by rw [fit_iff HX.out HLk.out rfl]; exact fun hc => hc.1 (by omega)))
          go_wp2_with (go_at_call 39; refine (om_top x l _ h2).mono ?_; rintro e w2 ⟨rfl, hb2⟩)
          go_roundw
          case rel => exact ⟨k + 1, by omega, by go_num, hnx.out, hB.trans (hb2.mono hs)⟩
          case measure => simp [intOf]; omega
        obtain ⟨t, hst⟩ : ∃ t, stp x l = t := ⟨_, rfl⟩
        have hv3 := fun w => om_any x l w (lOk_at HQ.out.1 HX.out) hyk.1 (by omega)
        have hsb := stp_bd (lOk_at HQ.out.1 HX.out) l
        rw [hst] at hv3 hsb
        have hfi := Lib.hid (fit_iff (left := bud - s) HX.out HLk.out hst)
        clear hst
        by_cases hf : t ≤ bud - s
        · have e4 : decide (t ≤ bud - s) = true := by simpa using hf
          have key := Lib.hid (fullB_false (xs := xs) (ls := ls) (bud := bud) fun hp => by
            have := hp.2.2.2 k (by rw [HM.out]; exact hlt)
            rw [HS.out, hfi.out] at this
            exact this ⟨by omega, hf⟩)
          go_wp2_with (go_at_call 39; refine (hv3 _).mono ?_; rintro e w2 ⟨rfl, hb2⟩)
          go_ret
          exact ⟨ret_bool key.out.symm, hB.trans (hb2.mono hs)⟩
        · have e4 : decide (t ≤ bud - s) = false := by simpa using hf
          have hnx := Lib.hid (no_succ hok.out (by rw [hfi.out]; exact fun hc => hf hc.2))
          go_wp2_with (go_at_call 39; refine (hv3 _).mono ?_; rintro e w2 ⟨rfl, hb2⟩)
          go_roundw
          case rel => exact ⟨k + 1, by omega, by go_num, hnx.out, hB.trans (hb2.mono hs)⟩
          case measure => simp [intOf]; omega
      · have hkn : k = n := by omega
        subst hkn
        have key := Lib.hid (fullB_true (xs := xs) (ls := ls) (bud := bud) ⟨HQ.out, by rw [HS.out]; omega, by omega, by rw [HS.out, HM.out]; exact hok.out⟩)
        go_wp2
        go_ret
        exact ⟨ret_bool key.out.symm, hB⟩
  · rw [costI_false q] at hv
    have key := Lib.hid (fullB_false (xs := xs) (ls := ls) (bud := bud) fun hp => q hp.1)
    go_enter Try.func22, Try.ntmps22
    go_wp2_with (first | (go_at_call 17; refine hv.mono ?_; rintro e w1 ⟨rfl, hb1⟩))
    go_ret
    exact ⟨ret_bool key.out.symm, hb1⟩
end Go.Proofs.Ythkoafcbcnobhaa
