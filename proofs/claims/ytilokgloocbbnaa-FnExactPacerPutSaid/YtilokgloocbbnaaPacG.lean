/-
  Queues by class: the first packet of all is taken.
  Conditions: as each theorem states them.
-/
import Derived.StillTailTactics
import Derived.Test.YtilokgloocbbnaaRows
import Derived.Test.YtilokgloocbbnaaLib
import Derived.Test.YtilokgloocbbnaaOwn
import Derived.Test.YtilokgloocbbnaaBut
import Derived.Test.YtilokgloocbbnaaDraw
import Derived.Test.YtilokgloocbbnaaInv
import Derived.Test.YtilokgloocbbnaaSlots
import Derived.Test.YtilokgloocbbnaaApp
import Derived.Test.YtilokgloocbbnaaPac
import Derived.Test.YtilokgloocbbnaaPacB
import Derived.Test.YtilokgloocbbnaaPacP
import Derived.Test.YtilokgloocbbnaaPacE
import Derived.Test.YtilokgloocbbnaaPacF
import Derived.Outline
namespace Go.Proofs.Ytilokgloocbbnaa
open Go.RowKit
set_option linter.unusedVariables false
set_option linter.unusedSimpArgs false

theorem join_first {q : Nat → List Wt} {k : Nat} {x : Wt} {L : List Wt} (hk : k < 3) (h0 : ∀ j, j < k → q j = []) (hq : q k = x :: L) : ∃ L', join q = x :: L' ∧ join (fun j => if j = k then L else q j) = L' := by
  have : k = 0 ∨ k = 1 ∨ k = 2 := by omega
  rcases this with rfl | rfl | rfl
  · exact ⟨L ++ q 1 ++ q 2, by simp [join, hq], by simp [join]⟩
  · exact ⟨L ++ q 2, by simp [join, hq, h0 0 (by omega)], by simp [join, h0 0 (by omega)]⟩
  · exact ⟨L, by simp [join, hq, h0 0 (by omega), h0 1 (by omega)], by simp [join, h0 0 (by omega), h0 1 (by omega)]⟩

def takeNo (w : World) (e : Ending) (w' : World) : Prop := e = .returned (.tuple #[.agg #[.int .i64 0, .int .i64 0, .int .i64 0], .bool false]) ∧ Below w.heap.size w w'
set_option maxHeartbeats 4000000 in
theorem take_no (w : World) (bq B : Nat) (v : Nat → Value) (q : Nat → List Wt) (size : Int) (h : QR 74 w bq B v q) (hB : B ≤ w.heap.size) (hno : ∀ x L, join q = x :: L → size < x.sz) :
    Calls Try.prog 43 #[.pointer (some ⟨bq, 0, none⟩), .int .i64 size] w (takeNo w) := by
  obtain ⟨hQ, hR⟩ := h
  have hql := hQ.lt
  have HR := Lib.hid hR
  have HN := Lib.hid hno
  clear hR hno
  have hZ0 := Bk.new w 27 #[.int .i64 0, .int .i64 0, .int .i64 0]
  go_enter Try.func43, Try.ntmps43
  go_wp2
  go_loopw [8] (fun i wr => ∃ k : Nat, k ≤ 3 ∧ i = .int .i64 k ∧ Hid (∀ j, j < k → q j = []) ∧ Bk wr w.heap.size 27 #[.int .i64 0, .int .i64 0, .int .i64 0] ∧ Below w.heap.size w wr) (fun i _ => 3 - (intOf i).toNat)
  case atStart => exact ⟨0, by omega, rfl, Lib.hid fun j hj => absurd hj (by omega), hZ0, (by repeat (first | exact Below.refl _ _ | assumption | refine Below.setCell ?_ (by first | omega | (simp; done) | (simp; omega)) _ | refine Below.alloc ?_ (by first | omega | (simp; done) | (simp; omega)) _ | refine Below.drew ?_ | refine Below.drewN' ?_ _ | refine Below.trans ?_ (Below.mono (by assumption) (by first | omega | (simp; done) | (simp; omega)))))⟩
  case round =>
    obtain ⟨k, hk, rfl, HE, hZ, hB1⟩ := hrel
    by_cases hlt : k < 3
    · have hi0' : (0 : Int) ≤ (k : Int) := Int.natCast_nonneg _
      have hi1 : (k : Int) < 3 := by omega
      obtain ⟨A, c, hv, h1, h2, h3, h4⟩ := HR.out k hlt
      have hcell : wr.cell? ⟨bq, k, none⟩ = some (v k) := by
        rw [(hQ.below hB1 hql).cell k]
        rcases k with _ | _ | _ | k <;> first | rfl | omega
      rw [hv] at hcell
      have HV := Lib.hid hv
      clear hv
      unfold maxLen at h2
      rcases hq : q k with _ | ⟨x, L⟩
      · have hl0 : (q k).length = 0 := by rw [hq]; rfl
        rw [hl0] at hcell
        have HQ2 := Lib.hid hq
        clear hq h1 h3 h4 hl0
        go_wp2
        go_roundw
        case rel =>
          refine ⟨k + 1, by omega, by go_num, Lib.hid fun j hj => ?_, hZ, hB1⟩
          by_cases e : j = k
          · rw [e]; exact HQ2.out
          · exact HE.out j (by omega)
        case measure => simp [intOf]; omega
      · obtain ⟨L', hj, -⟩ := join_first hlt HE.out hq
        have hs := HN.out _ _ hj
        obtain ⟨b, off, rfl, hb, hc⟩ := h3.addr (by rw [hq]; simp)
        obtain ⟨c0, c1, c2⟩ := hc 0 x (by rw [hq]; rfl)
        simp only [Nat.zero_mul, Nat.add_zero] at c0 c1 c2
        replace c0 := (hB1.cell (p := ⟨b, off, none⟩) (Nat.lt_of_lt_of_le hb hB)).trans c0
        replace c1 := (hB1.cell (p := ⟨b, off + 1, none⟩) (Nat.lt_of_lt_of_le hb hB)).trans c1
        replace c2 := (hB1.cell (p := ⟨b, off + 2, none⟩) (Nat.lt_of_lt_of_le hb hB)).trans c2
        have hl0 : 0 < (q k).length := by rw [hq]; simp
        have e1 : (((q k).length : Int) == 0) = false := beq_eq_false_iff_ne.2 (by omega)
        have e2 : decide (size < x.sz) = true := by simpa using hs
        have hbs := hB1.size
        clear hj hc hq h3 h4
        generalize (q k).length = nq at *
        (try clear hZ_c0); (try clear hZ_f0)
        (try clear hZ_c1); (try clear hZ_f1)
        (try clear hZ_c2); (try clear hZ_f2)
        (try clear hZ_lt)
        have hZ_lt := hZ.lt; (try simp only [World.size_alloc] at hZ_lt)
        have hZ_c0 := hZ.cell 0; have hZ_f0 := hZ.frozen 0
        have hZ_c1 := hZ.cell 1; have hZ_f1 := hZ.frozen 1
        have hZ_c2 := hZ.cell 2; have hZ_f2 := hZ.frozen 2
        simp only [List.getElem?_toArray, List.getElem?_cons_zero, List.getElem?_cons_succ] at hZ_c0 hZ_c1 hZ_c2
        go_wp2
        refine ⟨rfl, ?_⟩
        apply Exists.intro
        apply And.intro
        · simp [results, Try.results43, go_sem, hZ_c0, hZ_c1, hZ_c2, hZ_lt]; exact rfl
        · exact ⟨rfl, (by repeat (first | exact Below.refl _ _ | assumption | refine Below.setCell ?_ (by first | omega | (simp; done) | (simp; omega)) _ | refine Below.alloc ?_ (by first | omega | (simp; done) | (simp; omega)) _ | refine Below.drew ?_ | refine Below.drewN' ?_ _ | refine Below.trans ?_ (Below.mono (by assumption) (by first | omega | (simp; done) | (simp; omega)))))⟩
    · have hkn : k = 3 := by omega
      subst hkn
      (try clear hZ_c0); (try clear hZ_f0)
      (try clear hZ_c1); (try clear hZ_f1)
      (try clear hZ_c2); (try clear hZ_f2)
      (try clear hZ_lt)
      have hZ_lt := hZ.lt; (try simp only [World.size_alloc] at hZ_lt)
      have hZ_c0 := hZ.cell 0; have hZ_f0 := hZ.frozen 0
      have hZ_c1 := hZ.cell 1; have hZ_f1 := hZ.frozen 1
      have hZ_c2 := hZ.cell 2; have hZ_f2 := hZ.frozen 2
      simp only [List.getElem?_toArray, List.getElem?_cons_zero, List.getElem?_cons_succ] at hZ_c0 hZ_c1 hZ_c2
      go_wp2
      refine ⟨rfl, ?_⟩
      apply Exists.intro
      apply And.intro
      · simp [results, Try.results43, go_sem, hZ_c0, hZ_c1, hZ_c2, hZ_lt]; exact rfl
      · exact ⟨rfl, (by repeat (first | exact Below.refl _ _ | assumption | refine Below.setCell ?_ (by first | omega | (simp; done) | (simp; omega)) _ | refine Below.alloc ?_ (by first | omega | (simp; done) | (simp; omega)) _ | refine Below.drew ?_ | refine Below.drewN' ?_ _ | refine Below.trans ?_ (Below.mono (by assumption) (by first | omega | (simp; done) | (simp; omega)))))⟩

/-- The first packet has been taken. -/
def takeYes (TQ : TypeId) (bq B : Nat) (x : Wt) (L : List Wt) (w : World) (e : Ending) (w' : World) : Prop :=
  e = .returned (.tuple #[.agg #[.int .i64 x.id, .int .i64 x.cl, .int .i64 x.sz], .bool true]) ∧ (∃ v' q', QR TQ w' bq B v' q' ∧ join q' = L) ∧ Only bq w w'
theorem QR.tail {TQ : TypeId} {w w' : World} {bq B k : Nat} {v : Nat → Value} {q : Nat → List Wt} {x : Wt} {L : List Wt} {A : Option Addr} {n c : Nat} (h : QR TQ w bq B v q) (hk : k < 3) (hq : q k = x :: L) (hv : v k = .slice A n c) (hb : Bk w' bq TQ (#[v 0, v 1, v 2].setIfInBounds k (.slice (if c = 1 then A else A.map (·.add 3)) (n - 1) (c - 1)))) (ho : Only bq w w') :
    QR TQ w' bq B (upd v k (.slice (if c = 1 then A else A.map (·.add 3)) (n - 1) (c - 1))) (fun j => if j = k then L else q j) := by
  refine ⟨Qs.set_ hk hb, fun i hi => ?_⟩
  obtain ⟨A', c', hv', h1, h2, h3, h4⟩ := h.2 i hi
  have keep : ∀ {A : Option Addr} {n : Nat} {xs : List Wt}, Wts w B A n xs → (∀ b o, A = some ⟨b, o, none⟩ → b ≠ bq) → Wts w' B A n xs := fun hs hne =>
    Sl.but hs (But.of_only (X := fun k => k = bq) ho rfl) fun b o e => hne b o e
  by_cases e : i = k
  · subst e
    rw [hv'] at hv
    injection hv with e1 e2 e3
    subst e1 e2 e3
    have hlen : (q i).length = L.length + 1 := by rw [hq]; rfl
    rw [hlen] at h1 h3 ⊢
    refine ⟨if c' = 1 then A' else A'.map (·.add 3), c' - 1, ?_, ?_, by omega, ?_, ?_⟩
    · simp [upd]
    · simp; omega
    · have eL : (fun j => if j = i then L else q j) i = L := if_pos rfl
      rw [eL]
      have h5 := Sl.drop_ (k := 1) (c := c') h3 (by omega) h1
      rw [flat_drop, hq] at h5
      simp only [Nat.one_mul, List.drop_succ_cons, List.drop_zero, Nat.add_sub_cancel] at h5
      refine keep h5 fun b o e => ?_
      by_cases hc : c' = 1
      · rw [if_pos hc] at e
        exact h4 b o e
      · rw [if_neg hc] at e
        obtain ⟨b', off', rfl, -⟩ := h3.addr (by omega)
        simp [add_plain] at e
        exact e.1 ▸ h4 b' off' rfl
    · intro b o e
      by_cases hc : c' = 1
      · rw [if_pos hc] at e
        exact h4 b o e
      · rw [if_neg hc] at e
        obtain ⟨b', off', rfl, -⟩ := h3.addr (by omega)
        simp [add_plain] at e
        exact e.1 ▸ h4 b' off' rfl
  · refine ⟨A', c', by simp [upd, e, hv'], by simp [e, h1], h2, by simpa [e] using keep h3 h4, h4⟩

set_option maxHeartbeats 4000000 in
theorem take_yes (w : World) (bq B : Nat) (v : Nat → Value) (q : Nat → List Wt) (size : Int) (x : Wt) (L : List Wt) (h : QR 74 w bq B v q) (hB : B ≤ w.heap.size) (hj : join q = x :: L) (hs : x.sz ≤ size) :
    Calls Try.prog 43 #[.pointer (some ⟨bq, 0, none⟩), .int .i64 size] w (takeYes 74 bq B x L w) := by
  have HQR := Lib.hid h
  obtain ⟨hQ, hR⟩ := h
  have hql := hQ.lt
  have HR := Lib.hid hR
  have HN := Lib.hid hj
  clear hR hj
  have hZ0 := Bk.new w 27 #[.int .i64 0, .int .i64 0, .int .i64 0]
  go_enter Try.func43, Try.ntmps43
  go_wp2
  go_loopw [8] (fun i wr => ∃ k : Nat, k ≤ 3 ∧ i = .int .i64 k ∧ Hid (∀ j, j < k → q j = []) ∧ Bk wr w.heap.size 27 #[.int .i64 0, .int .i64 0, .int .i64 0] ∧ Below w.heap.size w wr) (fun i _ => 3 - (intOf i).toNat)
  case atStart => exact ⟨0, by omega, rfl, Lib.hid fun j hj => absurd hj (by omega), hZ0, (by repeat (first | exact Below.refl _ _ | assumption | refine Below.setCell ?_ (by first | omega | (simp; done) | (simp; omega)) _ | refine Below.alloc ?_ (by first | omega | (simp; done) | (simp; omega)) _ | refine Below.drew ?_ | refine Below.drewN' ?_ _ | refine Below.trans ?_ (Below.mono (by assumption) (by first | omega | (simp; done) | (simp; omega)))))⟩
  case round =>
    obtain ⟨k, hk, rfl, HE, hZ, hB1⟩ := hrel
    by_cases hlt : k < 3
    · have hi0' : (0 : Int) ≤ (k : Int) := Int.natCast_nonneg _
      have hi1 : (k : Int) < 3 := by omega
      obtain ⟨A, c, hv, h1, h2, h3, h4⟩ := HR.out k hlt
      have hQ1 := hQ.below hB1 hql
      have hcell : wr.cell? ⟨bq, k, none⟩ = some (v k) := by
        rw [hQ1.cell k]
        rcases k with _ | _ | _ | k <;> first | rfl | omega
      rw [hv] at hcell
      have HV := Lib.hid hv
      clear hv
      unfold maxLen at h2
      rcases hq : q k with _ | ⟨y, L0⟩
      · have hl0 : (q k).length = 0 := by rw [hq]; rfl
        rw [hl0] at hcell
        have HQ2 := Lib.hid hq
        clear hq h1 h3 h4 hl0
        go_wp2
        go_roundw
        case rel =>
          refine ⟨k + 1, by omega, by go_num, Lib.hid fun j hj => ?_, hZ, hB1⟩
          by_cases e : j = k
          · rw [e]; exact HQ2.out
          · exact HE.out j (by omega)
        case measure => simp [intOf]; omega
      · obtain ⟨L', hj, hj2⟩ := join_first hlt HE.out hq
        rw [HN.out] at hj
        injection hj with e1 e2
        subst e1 e2
        obtain ⟨b, off, rfl, hb, hc⟩ := h3.addr (by rw [hq]; simp)
        obtain ⟨c0, c1, c2⟩ := hc 0 x (by rw [hq]; rfl)
        simp only [Nat.zero_mul, Nat.add_zero] at c0 c1 c2
        replace c0 := (hB1.cell (p := ⟨b, off, none⟩) (Nat.lt_of_lt_of_le hb hB)).trans c0
        replace c1 := (hB1.cell (p := ⟨b, off + 1, none⟩) (Nat.lt_of_lt_of_le hb hB)).trans c1
        replace c2 := (hB1.cell (p := ⟨b, off + 2, none⟩) (Nat.lt_of_lt_of_le hb hB)).trans c2
        have hl0 : 0 < (q k).length := by rw [hq]; simp
        have e1 : (((q k).length : Int) == 0) = false := beq_eq_false_iff_ne.2 (by omega)
        have e2 : decide (size < x.sz) = false := by simpa using hs
        have hbs := hB1.size
        have hfz := hQ1.frozen k
        have HT := Lib.hid (fun w' hb' ho => HQR.out.tail (w' := w') hlt hq HV.out hb' ho)
        have HJ := Lib.hid hj2
        have HQ1 := Lib.hid hQ1
        clear hj2 hc hq h3 h4 hQ1
        generalize (q k).length = nq at *
        (try clear hZ_c0); (try clear hZ_f0)
        (try clear hZ_c1); (try clear hZ_f1)
        (try clear hZ_c2); (try clear hZ_f2)
        (try clear hZ_lt)
        have hZ_lt := hZ.lt; (try simp only [World.size_alloc] at hZ_lt)
        have hZ_c0 := hZ.cell 0; have hZ_f0 := hZ.frozen 0
        have hZ_c1 := hZ.cell 1; have hZ_f1 := hZ.frozen 1
        have hZ_c2 := hZ.cell 2; have hZ_f2 := hZ.frozen 2
        simp only [List.getElem?_toArray, List.getElem?_cons_zero, List.getElem?_cons_succ] at hZ_c0 hZ_c1 hZ_c2
        have hF := Bk.new wr 27 #[.int .i64 x.id, .int .i64 x.cl, .int .i64 x.sz]
        have hQ2 := HQ1.out.alloc (.cells #[.int .i64 x.id, .int .i64 x.cl, .int .i64 x.sz] 27)
        have hZ2 := hZ.alloc (.cells #[.int .i64 x.id, .int .i64 x.cl, .int .i64 x.sz] 27)
        have hO2 : Only bq wr (wr.alloc (.cells #[.int .i64 x.id, .int .i64 x.cl, .int .i64 x.sz] 27)) := (Only.refl _ _).alloc _
        by_cases hc1 : c = 1
        · have hn1 : nq = 1 := by omega
          subst hc1 hn1
          go_wp2
          generalize wr.alloc (.cells #[.int .i64 x.id, .int .i64 x.cl, .int .i64 x.sz] 27) = W at *
          have hcW : W.cell? ⟨bq, k, none⟩ = some (.slice (some ⟨b, off, none⟩) 1 1) := by
            rw [hQ2.cell k]
            have := HV.out
            rcases k with _ | _ | _ | k <;> first | (simp; exact this) | omega
          have hfW := hQ2.frozen k
          have HHV := HV.out
          have HTT := HT.out
          refine wp_still_tail 10 (by kernel_rfl) (by kernel_rfl) ?_
          simp only [List.take_succ_cons, List.take_zero, List.drop_succ_cons, List.drop_zero]
          repeat still_step
          refine wpStill_nil ?_
          have hOW : Only bq w W := (Only.of_below hB1).trans hO2
          have hne : w.heap.size ≠ bq := by omega
          have hne2 : wr.heap.size ≠ bq := by have := hQ2.lt; have := HQ1.out.lt; omega
          have hFIN := HTT (((((W.drew.setCell ⟨bq, k, none⟩ (.slice (some ⟨b, off, none⟩) 0 0)).setCell ⟨w.heap.size, 0, none⟩ (.int .i64 x.id)).setCell ⟨w.heap.size, 1, none⟩ (.int .i64 x.cl)).setCell ⟨w.heap.size, 2, none⟩ (.int .i64 x.sz)))
            (by have := (((hQ2.drew.set_ k (.slice (some ⟨b, off, none⟩) 0 0)).far (p := ⟨w.heap.size, 0, none⟩) (Ne.symm hne) (.int .i64 x.id)).far (p := ⟨w.heap.size, 1, none⟩) (Ne.symm hne) (.int .i64 x.cl)).far (p := ⟨w.heap.size, 2, none⟩) (Ne.symm hne) (.int .i64 x.sz); simpa [add_plain] using this)
            ((((hOW.drew.setCell (p := ⟨bq, k, none⟩) (.inl rfl) _).setCell (p := ⟨w.heap.size, 0, none⟩) (.inr (Nat.le_refl _)) _).setCell (p := ⟨w.heap.size, 1, none⟩) (.inr (Nat.le_refl _)) _).setCell (p := ⟨w.heap.size, 2, none⟩) (.inr (Nat.le_refl _)) _)
          have HFIN := Lib.hid hFIN
          have HONLY := Lib.hid ((((hOW.drew.setCell (p := ⟨bq, k, none⟩) (.inl rfl) (.slice (some ⟨b, off, none⟩) 0 0)).setCell (p := ⟨w.heap.size, 0, none⟩) (.inr (Nat.le_refl _)) (.int .i64 x.id)).setCell (p := ⟨w.heap.size, 1, none⟩) (.inr (Nat.le_refl _)) (.int .i64 x.cl)).setCell (p := ⟨w.heap.size, 2, none⟩) (.inr (Nat.le_refl _)) (.int .i64 x.sz))
          clear hFIN HHV HTT
          (try clear hF_c0); (try clear hF_f0)
          (try clear hF_c1); (try clear hF_f1)
          (try clear hF_c2); (try clear hF_f2)
          (try clear hF_lt)
          have hF_lt := hF.lt; (try simp only [World.size_alloc] at hF_lt)
          have hF_c0 := hF.cell 0; have hF_f0 := hF.frozen 0
          have hF_c1 := hF.cell 1; have hF_f1 := hF.frozen 1
          have hF_c2 := hF.cell 2; have hF_f2 := hF.frozen 2
          simp only [List.getElem?_toArray, List.getElem?_cons_zero, List.getElem?_cons_succ] at hF_c0 hF_c1 hF_c2
          (try clear hZ2_c0); (try clear hZ2_f0)
          (try clear hZ2_c1); (try clear hZ2_f1)
          (try clear hZ2_c2); (try clear hZ2_f2)
          (try clear hZ2_lt)
          have hZ2_lt := hZ2.lt; (try simp only [World.size_alloc] at hZ2_lt)
          have hZ2_c0 := hZ2.cell 0; have hZ2_f0 := hZ2.frozen 0
          have hZ2_c1 := hZ2.cell 1; have hZ2_f1 := hZ2.frozen 1
          have hZ2_c2 := hZ2.cell 2; have hZ2_f2 := hZ2.frozen 2
          simp only [List.getElem?_toArray, List.getElem?_cons_zero, List.getElem?_cons_succ] at hZ2_c0 hZ2_c1 hZ2_c2
          go_wp2
          refine ⟨rfl, ?_⟩
          apply Exists.intro
          apply And.intro
          · simp [results, Try.results43, go_sem, hZ2_c0, hZ2_c1, hZ2_c2, hZ2_lt]; exact rfl
          · exact ⟨rfl, ⟨_, _, HFIN.out, HJ.out⟩, HONLY.out⟩
        · have hi2 : (1 : Int) ≤ (nq : Int) := by omega
          have hi3 : (nq : Int) ≤ (c : Int) := by omega
          have hi4 : (1 : Int) ≤ (c : Int) := by omega
          go_wp2
          generalize wr.alloc (.cells #[.int .i64 x.id, .int .i64 x.cl, .int .i64 x.sz] 27) = W at *
          have hcW : W.cell? ⟨bq, k, none⟩ = some (.slice (some ⟨b, off, none⟩) nq c) := by
            rw [hQ2.cell k]
            have := HV.out
            rcases k with _ | _ | _ | k <;> first | (simp; exact this) | omega
          have hfW := hQ2.frozen k
          have HHV := HV.out
          have HTT := HT.out
          refine wp_still_tail 10 (by kernel_rfl) (by kernel_rfl) ?_
          simp only [List.take_succ_cons, List.take_zero, List.drop_succ_cons, List.drop_zero]
          repeat still_step
          refine wpStill_nil ?_
          have hOW : Only bq w W := (Only.of_below hB1).trans hO2
          have hne : w.heap.size ≠ bq := by omega
          have hne2 : wr.heap.size ≠ bq := by have := hQ2.lt; have := HQ1.out.lt; omega
          have hFIN := HTT (((((W.drew.setCell ⟨bq, k, none⟩ (.slice (some ⟨b, off + 3, none⟩) (nq - 1) (c - 1))).setCell ⟨w.heap.size, 0, none⟩ (.int .i64 x.id)).setCell ⟨w.heap.size, 1, none⟩ (.int .i64 x.cl)).setCell ⟨w.heap.size, 2, none⟩ (.int .i64 x.sz)))
            (by have := (((hQ2.drew.set_ k (.slice (some ⟨b, off + 3, none⟩) (nq - 1) (c - 1))).far (p := ⟨w.heap.size, 0, none⟩) (Ne.symm hne) (.int .i64 x.id)).far (p := ⟨w.heap.size, 1, none⟩) (Ne.symm hne) (.int .i64 x.cl)).far (p := ⟨w.heap.size, 2, none⟩) (Ne.symm hne) (.int .i64 x.sz); simpa [add_plain, hc1] using this)
            ((((hOW.drew.setCell (p := ⟨bq, k, none⟩) (.inl rfl) _).setCell (p := ⟨w.heap.size, 0, none⟩) (.inr (Nat.le_refl _)) _).setCell (p := ⟨w.heap.size, 1, none⟩) (.inr (Nat.le_refl _)) _).setCell (p := ⟨w.heap.size, 2, none⟩) (.inr (Nat.le_refl _)) _)
          have HFIN := Lib.hid hFIN
          have HONLY := Lib.hid ((((hOW.drew.setCell (p := ⟨bq, k, none⟩) (.inl rfl) (.slice (some ⟨b, off + 3, none⟩) (nq - 1) (c - 1))).setCell (p := ⟨w.heap.size, 0, none⟩) (.inr (Nat.le_refl _)) (.int .i64 x.id)).setCell (p := ⟨w.heap.size, 1, none⟩) (.inr (Nat.le_refl _)) (.int .i64 x.cl)).setCell (p := ⟨w.heap.size, 2, none⟩) (.inr (Nat.le_refl _)) (.int .i64 x.sz))
          clear hFIN HHV HTT
          (try clear hF_c0); (try clear hF_f0)
          (try clear hF_c1); (try clear hF_f1)
          (try clear hF_c2); (try clear hF_f2)
          (try clear hF_lt)
          have hF_lt := hF.lt; (try simp only [World.size_alloc] at hF_lt)
          have hF_c0 := hF.cell 0; have hF_f0 := hF.frozen 0
          have hF_c1 := hF.cell 1; have hF_f1 := hF.frozen 1
          have hF_c2 := hF.cell 2; have hF_f2 := hF.frozen 2
          simp only [List.getElem?_toArray, List.getElem?_cons_zero, List.getElem?_cons_succ] at hF_c0 hF_c1 hF_c2
          (try clear hZ2_c0); (try clear hZ2_f0)
          (try clear hZ2_c1); (try clear hZ2_f1)
          (try clear hZ2_c2); (try clear hZ2_f2)
          (try clear hZ2_lt)
          have hZ2_lt := hZ2.lt; (try simp only [World.size_alloc] at hZ2_lt)
          have hZ2_c0 := hZ2.cell 0; have hZ2_f0 := hZ2.frozen 0
          have hZ2_c1 := hZ2.cell 1; have hZ2_f1 := hZ2.frozen 1
          have hZ2_c2 := hZ2.cell 2; have hZ2_f2 := hZ2.frozen 2
          simp only [List.getElem?_toArray, List.getElem?_cons_zero, List.getElem?_cons_succ] at hZ2_c0 hZ2_c1 hZ2_c2
          go_wp2
          refine ⟨rfl, ?_⟩
          apply Exists.intro
          apply And.intro
          · simp [results, Try.results43, go_sem, hZ2_c0, hZ2_c1, hZ2_c2, hZ2_lt]; exact rfl
          · exact ⟨rfl, ⟨_, _, HFIN.out, HJ.out⟩, HONLY.out⟩
    · have hkn : k = 3 := by omega
      subst hkn
      exfalso
      have := HN.out
      simp [join, HE.out 0 (by omega), HE.out 1 (by omega), HE.out 2 (by omega)] at this
end Go.Proofs.Ytilokgloocbbnaa
