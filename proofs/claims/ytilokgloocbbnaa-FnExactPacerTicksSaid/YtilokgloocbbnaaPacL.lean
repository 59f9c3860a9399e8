/-
  PacerTicks of both.
  Conditions: as each theorem states them.
-/
import Derived.Deep.RegionHeld3
import Derived.Test.YtilokgloocbbnaaRows
import Derived.Test.YtilokgloocbbnaaLib
import Derived.Test.YtilokgloocbbnaaOwn
import Derived.Test.YtilokgloocbbnaaBut
import Derived.Test.YtilokgloocbbnaaDraw
import Derived.Test.YtilokgloocbbnaaInv
import Derived.Test.YtilokgloocbbnaaSlots
import Derived.Test.YtilokgloocbbnaaApp
import Derived.Test.YtilokgloocbbnaaPac
import Derived.Test.YtilokgloocbbnaaPacB
import Derived.Test.YtilokgloocbbnaaPacP
import Derived.Test.YtilokgloocbbnaaPacI
import Derived.Test.YtilokgloocbbnaaPacJ
import Derived.Test.YtilokgloocbbnaaPacK
import Derived.Outline
namespace Go.Proofs.Ytilokgloocbbnaa
open Go.RowKit
set_option linter.unusedVariables false
set_option linter.unusedSimpArgs false

/-- What is left to be told at a round. -/
def Left (ea : Int) (k : Nat) (cr : Int) (xs : List Wt) (T : Int) : Prop := (k ≤ 200 → tcks ea (200 - k) cr xs k = T) ∧ (k = 201 → T = -1)
theorem Left.next {ea cr T : Int} {k : Nat} {xs : List Wt} (h : Left ea k cr xs T) (hk : k ≤ 200) (hne : xs ≠ []) : Left ea (k + 1) (nx ea cr xs) (rs ea cr xs) T := by
  have h1 := h.1 hk
  refine ⟨fun h2 => ?_, fun h2 => ?_⟩
  · rw [show 200 - k = (200 - (k + 1)) + 1 by omega, tcks_succ _ _ _ _ hne] at h1
    exact h1
  · rw [show 200 - k = 0 by omega, tcks_zero _ _ _ hne] at h1
    exact h1.symm
theorem Left.done {ea cr T : Int} {k : Nat} (h : Left ea k cr [] T) (hk : k ≤ 200) : T = k := by
  rw [← h.1 hk, tcks_nil]
theorem Left.start {ea cr : Int} {xs : List Wt} (hp : pOk ea cr xs) : Left ea 0 cr xs (ticks ea cr xs) :=
  ⟨fun _ => by unfold ticks; rw [if_pos (pB_true.2 hp)], fun h => absurd h (by omega)⟩
/-- A slice of packets, not in block g. -/
def Far (w : World) (g : Nat) (A : Option Addr) (m c : Nat) (xs : List Wt) : Prop := Wts w w.heap.size A m xs ∧ m ≤ c ∧ c ≤ maxLen ∧ (0 < m → ∀ b o, A = some ⟨b, o, none⟩ → b ≠ g)
theorem Far.own {w w' : World} {g N m : Nat} {T : TypeId} {v : Value} {xs : List Wt} (h : w.ownsRow N T 3 v m (xs.flatMap Wt.c)) (hg : g < N) (ho : Only g w w') : ∃ A c, v = .slice A m c ∧ Far w' g A m c xs := by
  obtain ⟨A, c, e, h1, h2, h3⟩ := own_shape (own_only h ho hg)
  refine ⟨A, c, e, h3, h1, h2, fun _ b o hA => ?_⟩
  have := (h.lt b (by rw [e, hA]; rfl)).1
  omega

set_option maxHeartbeats 4000000 in
theorem sticks_any (ea cr : Int) (A : Option Addr) (n c : Nat) (xs : List Wt) (w : World) (h : Wts w w.heap.size A n xs) (hn : n ≤ 1099511627776) (hnc : n ≤ c) (hc : c ≤ maxLen) :
    Calls Try.prog 24 #[.agg #[.int .i64 ea, .int .i64 cr, .slice A n c]] w fun e w' => e = .returned (.int .i64 (ticks ea cr xs)) ∧ Below w.heap.size w w' := by
  have hP := Bk.new w 25 #[.int .i64 ea, .int .i64 cr, .slice A n c]
  have hv := fun w h => spv_any ea cr A n c xs w h hn
  by_cases hp : pOk ea cr xs
  · rw [pB_true.2 hp] at hv
    have HV := Lib.hid hv
    have HF := Lib.hid (show Far w w.heap.size A n c xs from ⟨h, hnc, hc, fun hn0 b o hA => by
      obtain ⟨b', off', e, hb, -⟩ := h.addr hn0
      rw [e] at hA
      injection hA with hA
      injection hA with h1 h2
      omega⟩)
    have HL0 := Lib.hid (Left.start hp)
    have HP := Lib.hid hp
    clear hv hp
    go_enter Try.func24, Try.ntmps24
    go_wp2_with fail
    refine (HV.out _ ?_).mono ?_
    · exact (Wts.below h (by repeat (first | exact Below.refl _ _ | assumption | refine Below.setCell ?_ (by first | omega | (simp; done) | (simp; omega)) _ | refine Below.alloc ?_ (by first | omega | (simp; done) | (simp; omega)) _ | refine Below.drew ?_ | refine Below.drewN' ?_ _ | refine Below.trans ?_ (Below.mono (by assumption) (by first | omega | (simp; done) | (simp; omega)))))).more (by first | omega | (simp; done) | (simp; omega))
    rintro y w1 ⟨rfl, hb1⟩
    replace hP := hP.below hb1 (by first | omega | exact hP.lt | (simp; done) | (simp; omega))
    have hB : Below w.heap.size w w1 := (by repeat (first | exact Below.refl _ _ | assumption | refine Below.setCell ?_ (by first | omega | (simp; done) | (simp; omega)) _ | refine Below.alloc ?_ (by first | omega | (simp; done) | (simp; omega)) _ | refine Below.drew ?_ | refine Below.drewN' ?_ _ | refine Below.trans ?_ (Below.mono (by assumption) (by first | omega | (simp; done) | (simp; omega)))))
    clear hb1
    go_wp2_with fail
    go_loopw [3] (fun i wr => ∃ (k : Nat) (cr' : Int) (xs' : List Wt) (A' : Option Addr) (m c' : Nat), k ≤ 201 ∧ i = .int .i64 k ∧ Bk wr w.heap.size 25 #[.int .i64 ea, .int .i64 cr', .slice A' m c'] ∧ Far wr w.heap.size A' m c' xs' ∧ Hid (pOk ea cr' xs') ∧ Hid (Left ea k cr' xs' (ticks ea cr xs)) ∧ Below w.heap.size w wr) (fun i _ => 201 - (intOf i).toNat)
    case atStart => exact ⟨0, cr, xs, A, n, c, by omega, rfl, hP, ⟨(HF.out.1.below hB).more hB.size, HF.out.2⟩, HP, HL0, hB⟩
    case round =>
      obtain ⟨k, cr', xs', A', m, c', hk, rfl, hP, ⟨f1, f2, f3, f4⟩, HP', HL, hB⟩ := hrel
      have hm12 : m ≤ 12 := by have := HP'.out.2.2.2.2.1; rw [f1.len] at this; exact this
      (try clear hP_c0); (try clear hP_f0)
      (try clear hP_c1); (try clear hP_f1)
      (try clear hP_c2); (try clear hP_f2)
      (try clear hP_lt)
      have hP_lt := hP.lt; (try simp only [World.size_alloc] at hP_lt)
      have hP_c0 := hP.cell 0; have hP_f0 := hP.frozen 0
      have hP_c1 := hP.cell 1; have hP_f1 := hP.frozen 1
      have hP_c2 := hP.cell 2; have hP_f2 := hP.frozen 2
      simp only [List.getElem?_toArray, List.getElem?_cons_zero, List.getElem?_cons_succ] at hP_c0 hP_c1 hP_c2
      by_cases hk2 : k ≤ 200
      · have e0 : decide ((k : Int) ≤ 200) = true := by simp; omega
        by_cases hm : m = 0
        · subst hm
          have hx : xs' = [] := List.eq_nil_of_length_eq_zero f1.len
          subst hx
          have HD := Lib.hid (HL.out.done hk2)
          clear f1 f2 f3 f4
          go_wp2
          go_ret
          exact ⟨by rw [HD.out]; rfl, hB⟩
        · have e1 : ((m : Int) == 0) = false := beq_eq_false_iff_ne.2 (by omega)
          have hne : xs' ≠ [] := fun h => by rw [h] at f1; have := f1.len; simp at this; omega
          have HN := Lib.hid (HL.out.next hk2 hne)
          have HPN := Lib.hid (pOk_next HP'.out)
          have F1 := Lib.hid f1
          have F2 := Lib.hid f2
          have F3 := Lib.hid f3
          clear hne f1 f2 f3 f4
          have hbs := hB.size
          have hPl := hP_lt
          go_wp2_with fail
          refine (l22Tick_any ea cr' A' m c' xs' wr F1.out F2.out F3.out HP'.out).mono ?_
          rintro y w2 ⟨v, u, rfl, ht⟩
          obtain ⟨A2, c2, rfl, -⟩ := own_shape ht.1
          have hbt := ht.2.2.2
          replace hP := hP.below hbt (by first | omega | exact hP.lt | (simp; done) | (simp; omega))
          (try clear hP_c0); (try clear hP_f0)
          (try clear hP_c1); (try clear hP_f1)
          (try clear hP_c2); (try clear hP_f2)
          (try clear hP_lt)
          have hP_lt := hP.lt; (try simp only [World.size_alloc] at hP_lt)
          have hP_c0 := hP.cell 0; have hP_f0 := hP.frozen 0
          have hP_c1 := hP.cell 1; have hP_f1 := hP.frozen 1
          have hP_c2 := hP.cell 2; have hP_f2 := hP.frozen 2
          simp only [List.getElem?_toArray, List.getElem?_cons_zero, List.getElem?_cons_succ] at hP_c0 hP_c1 hP_c2
          have hB2 := hB.trans (hbt.mono hbs)
          have hOn := (((Only.refl w.heap.size w2).setCell (p := ⟨w.heap.size, 0, none⟩) (.inl rfl) (.int .i64 ea)).setCell (p := ⟨w.heap.size, 1, none⟩) (.inl rfl) (.int .i64 (nx ea cr' xs'))).setCell (p := ⟨w.heap.size, 2, none⟩) (.inl rfl) (.slice A2 (rs ea cr' xs').length c2)
          have hFin := ((hP.set_ 0 (.int .i64 ea)).set_ 1 (.int .i64 (nx ea cr' xs'))).set_ 2 (.slice A2 (rs ea cr' xs').length c2)
          simp only [List.setIfInBounds_toArray, List.set_cons_zero, List.set_cons_succ] at hFin
          obtain ⟨A3, c3, hv3, hfar⟩ := Far.own ht.1 hPl (hOn.alloc (.cells #[.int .i64 ea, .int .i64 (nx ea cr' xs'), .slice A2 (rs ea cr' xs').length c2] 25))
          injection hv3 with e3 e4 e5
          subst e3 e5
          have HFAR := Lib.hid hfar
          have HFIN := Lib.hid (hFin.alloc (.cells #[.int .i64 ea, .int .i64 (nx ea cr' xs'), .slice A2 (rs ea cr' xs').length c2] 25))
          have HBF := Lib.hid (hB2.trans ((hOn.alloc (.cells #[.int .i64 ea, .int .i64 (nx ea cr' xs'), .slice A2 (rs ea cr' xs').length c2] 25)).below (Nat.le_refl _) hB2.size))
          clear ht hbt hOn hFin hfar e4
          have hX := Bk.new w2 25 #[.int .i64 ea, .int .i64 (nx ea cr' xs'), .slice A2 (rs ea cr' xs').length c2]
          (try clear hX_c0); (try clear hX_f0)
          (try clear hX_c1); (try clear hX_f1)
          (try clear hX_c2); (try clear hX_f2)
          (try clear hX_lt)
          have hX_lt := hX.lt; (try simp only [World.size_alloc] at hX_lt)
          have hX_c0 := hX.cell 0; have hX_f0 := hX.frozen 0
          have hX_c1 := hX.cell 1; have hX_f1 := hX.frozen 1
          have hX_c2 := hX.cell 2; have hX_f2 := hX.frozen 2
          simp only [List.getElem?_toArray, List.getElem?_cons_zero, List.getElem?_cons_succ] at hX_c0 hX_c1 hX_c2
          go_wp2
          go_roundw
          case rel => exact ⟨k + 1, _, _, _, _, _, by omega, by go_num, HFIN.out, HFAR.out, HPN, HN, HBF.out⟩
          case measure => simp [intOf]; omega
      · have hk3 : k = 201 := by omega
        subst hk3
        have HD := Lib.hid (HL.out.2 rfl)
        clear f1 f2 f3 f4
        go_wp2
        go_ret
        exact ⟨by rw [HD.out]; rfl, hB⟩
  · rw [pB_false.2 hp] at hv
    have HV := Lib.hid hv
    have HT := Lib.hid (show ticks ea cr xs = -1 by unfold ticks; rw [pB_false.2 hp]; rfl)
    clear hv hp
    go_enter Try.func24, Try.ntmps24
    go_wp2_with fail
    refine (HV.out _ ?_).mono ?_
    · exact (Wts.below h (by repeat (first | exact Below.refl _ _ | assumption | refine Below.setCell ?_ (by first | omega | (simp; done) | (simp; omega)) _ | refine Below.alloc ?_ (by first | omega | (simp; done) | (simp; omega)) _ | refine Below.drew ?_ | refine Below.drewN' ?_ _ | refine Below.trans ?_ (Below.mono (by assumption) (by first | omega | (simp; done) | (simp; omega)))))).more (by first | omega | (simp; done) | (simp; omega))
    rintro y w1 ⟨rfl, hb1⟩
    have hB : Below w.heap.size w w1 := (by repeat (first | exact Below.refl _ _ | assumption | refine Below.setCell ?_ (by first | omega | (simp; done) | (simp; omega)) _ | refine Below.alloc ?_ (by first | omega | (simp; done) | (simp; omega)) _ | refine Below.drew ?_ | refine Below.drewN' ?_ _ | refine Below.trans ?_ (Below.mono (by assumption) (by first | omega | (simp; done) | (simp; omega)))))
    go_wp2
    go_ret
    exact ⟨by rw [HT.out]; rfl, hB⟩

set_option maxHeartbeats 4000000 in
theorem iticks_any (ea cr : Int) (A : Option Addr) (n c : Nat) (xs : List Wt) (w : World) (h : Wts w w.heap.size A n xs) (hn : n ≤ 1099511627776) (hnc : n ≤ c) (hc : c ≤ maxLen) :
    Calls Try.prog 23 #[.agg #[.int .i64 ea, .int .i64 cr, .slice A n c]] w fun e w' => e = .returned (.int .i64 (ticks ea cr xs)) ∧ Below w.heap.size w w' := by
  have hP := Bk.new w 25 #[.int .i64 ea, .int .i64 cr, .slice A n c]
  have hv := fun w h => ipv_any ea cr A n c xs w h hn
  by_cases hp : pOk ea cr xs
  · rw [pB_true.2 hp] at hv
    have HV := Lib.hid hv
    have HF := Lib.hid (show Far w w.heap.size A n c xs from ⟨h, hnc, hc, fun hn0 b o hA => by
      obtain ⟨b', off', e, hb, -⟩ := h.addr hn0
      rw [e] at hA
      injection hA with hA
      injection hA with h1 h2
      omega⟩)
    have HL0 := Lib.hid (Left.start hp)
    have HP := Lib.hid hp
    clear hv hp
    go_enter Try.func23, Try.ntmps23
    go_wp2_with fail
    refine (HV.out _ ?_).mono ?_
    · exact (Wts.below h (by repeat (first | exact Below.refl _ _ | assumption | refine Below.setCell ?_ (by first | omega | (simp; done) | (simp; omega)) _ | refine Below.alloc ?_ (by first | omega | (simp; done) | (simp; omega)) _ | refine Below.drew ?_ | refine Below.drewN' ?_ _ | refine Below.trans ?_ (Below.mono (by assumption) (by first | omega | (simp; done) | (simp; omega)))))).more (by first | omega | (simp; done) | (simp; omega))
    rintro y w1 ⟨rfl, hb1⟩
    replace hP := hP.below hb1 (by first | omega | exact hP.lt | (simp; done) | (simp; omega))
    have hB : Below w.heap.size w w1 := (by repeat (first | exact Below.refl _ _ | assumption | refine Below.setCell ?_ (by first | omega | (simp; done) | (simp; omega)) _ | refine Below.alloc ?_ (by first | omega | (simp; done) | (simp; omega)) _ | refine Below.drew ?_ | refine Below.drewN' ?_ _ | refine Below.trans ?_ (Below.mono (by assumption) (by first | omega | (simp; done) | (simp; omega)))))
    clear hb1
    go_wp2_with fail
    go_loopw [3] (fun i wr => ∃ (k : Nat) (cr' : Int) (xs' : List Wt) (A' : Option Addr) (m c' : Nat), k ≤ 201 ∧ i = .int .i64 k ∧ Bk wr w.heap.size 25 #[.int .i64 ea, .int .i64 cr', .slice A' m c'] ∧ Far wr w.heap.size A' m c' xs' ∧ Hid (pOk ea cr' xs') ∧ Hid (Left ea k cr' xs' (ticks ea cr xs)) ∧ Below w.heap.size w wr) (fun i _ => 201 - (intOf i).toNat)
    case atStart => exact ⟨0, cr, xs, A, n, c, by omega, rfl, hP, ⟨(HF.out.1.below hB).more hB.size, HF.out.2⟩, HP, HL0, hB⟩
    case round =>
      obtain ⟨k, cr', xs', A', m, c', hk, rfl, hP, ⟨f1, f2, f3, f4⟩, HP', HL, hB⟩ := hrel
      have hm12 : m ≤ 12 := by have := HP'.out.2.2.2.2.1; rw [f1.len] at this; exact this
      (try clear hP_c0); (try clear hP_f0)
      (try clear hP_c1); (try clear hP_f1)
      (try clear hP_c2); (try clear hP_f2)
      (try clear hP_lt)
      have hP_lt := hP.lt; (try simp only [World.size_alloc] at hP_lt)
      have hP_c0 := hP.cell 0; have hP_f0 := hP.frozen 0
      have hP_c1 := hP.cell 1; have hP_f1 := hP.frozen 1
      have hP_c2 := hP.cell 2; have hP_f2 := hP.frozen 2
      simp only [List.getElem?_toArray, List.getElem?_cons_zero, List.getElem?_cons_succ] at hP_c0 hP_c1 hP_c2
      by_cases hk2 : k ≤ 200
      · have e0 : decide ((k : Int) ≤ 200) = true := by simp; omega
        by_cases hm : m = 0
        · subst hm
          have hx : xs' = [] := List.eq_nil_of_length_eq_zero f1.len
          subst hx
          have HD := Lib.hid (HL.out.done hk2)
          clear f1 f2 f3 f4
          go_wp2
          go_ret
          exact ⟨by rw [HD.out]; rfl, hB⟩
        · have e1 : ((m : Int) == 0) = false := beq_eq_false_iff_ne.2 (by omega)
          have hne : xs' ≠ [] := fun h => by rw [h] at f1; have := f1.len; simp at this; omega
          have HN := Lib.hid (HL.out.next hk2 hne)
          have HPN := Lib.hid (pOk_next HP'.out)
          have F1 := Lib.hid f1
          have F2 := Lib.hid f2
          have F3 := Lib.hid f3
          clear hne f1 f2 f3 f4
          have hbs := hB.size
          have hPl := hP_lt
          go_wp2_with fail
          refine (itick_good ea cr' A' m c' xs' wr F1.out HP'.out).mono ?_
          rintro y w2 ⟨v, u, rfl, ht⟩
          obtain ⟨A2, c2, rfl, -⟩ := own_shape ht.1
          have hbt := ht.2.2.2
          replace hP := hP.below hbt (by first | omega | exact hP.lt | (simp; done) | (simp; omega))
          (try clear hP_c0); (try clear hP_f0)
          (try clear hP_c1); (try clear hP_f1)
          (try clear hP_c2); (try clear hP_f2)
          (try clear hP_lt)
          have hP_lt := hP.lt; (try simp only [World.size_alloc] at hP_lt)
          have hP_c0 := hP.cell 0; have hP_f0 := hP.frozen 0
          have hP_c1 := hP.cell 1; have hP_f1 := hP.frozen 1
          have hP_c2 := hP.cell 2; have hP_f2 := hP.frozen 2
          simp only [List.getElem?_toArray, List.getElem?_cons_zero, List.getElem?_cons_succ] at hP_c0 hP_c1 hP_c2
          have hB2 := hB.trans (hbt.mono hbs)
          have hOn := (((Only.refl w.heap.size w2).setCell (p := ⟨w.heap.size, 0, none⟩) (.inl rfl) (.int .i64 ea)).setCell (p := ⟨w.heap.size, 1, none⟩) (.inl rfl) (.int .i64 (nx ea cr' xs'))).setCell (p := ⟨w.heap.size, 2, none⟩) (.inl rfl) (.slice A2 (rs ea cr' xs').length c2)
          have hFin := ((hP.set_ 0 (.int .i64 ea)).set_ 1 (.int .i64 (nx ea cr' xs'))).set_ 2 (.slice A2 (rs ea cr' xs').length c2)
          simp only [List.setIfInBounds_toArray, List.set_cons_zero, List.set_cons_succ] at hFin
          obtain ⟨A3, c3, hv3, hfar⟩ := Far.own ht.1 hPl (hOn)
          injection hv3 with e3 e4 e5
          subst e3 e5
          have HFAR := Lib.hid hfar
          have HFIN := Lib.hid (hFin)
          have HBF := Lib.hid (hB2.trans ((hOn).below (Nat.le_refl _) hB2.size))
          clear ht hbt hOn hFin hfar e4
          go_wp2
          go_roundw
          case rel => exact ⟨k + 1, _, _, _, _, _, by omega, by go_num, HFIN.out, HFAR.out, HPN, HN, HBF.out⟩
          case measure => simp [intOf]; omega
      · have hk3 : k = 201 := by omega
        subst hk3
        have HD := Lib.hid (HL.out.2 rfl)
        clear f1 f2 f3 f4
        go_wp2
        go_ret
        exact ⟨by rw [HD.out]; rfl, hB⟩
  · rw [pB_false.2 hp] at hv
    have HV := Lib.hid hv
    have HT := Lib.hid (show ticks ea cr xs = -1 by unfold ticks; rw [pB_false.2 hp]; rfl)
    clear hv hp
    go_enter Try.func23, Try.ntmps23
    go_wp2_with fail
    refine (HV.out _ ?_).mono ?_
    · exact (Wts.below h (by repeat (first | exact Below.refl _ _ | assumption | refine Below.setCell ?_ (by first | omega | (simp; done) | (simp; omega)) _ | refine Below.alloc ?_ (by first | omega | (simp; done) | (simp; omega)) _ | refine Below.drew ?_ | refine Below.drewN' ?_ _ | refine Below.trans ?_ (Below.mono (by assumption) (by first | omega | (simp; done) | (simp; omega)))))).more (by first | omega | (simp; done) | (simp; omega))
    rintro y w1 ⟨rfl, hb1⟩
    have hB : Below w.heap.size w w1 := (by repeat (first | exact Below.refl _ _ | assumption | refine Below.setCell ?_ (by first | omega | (simp; done) | (simp; omega)) _ | refine Below.alloc ?_ (by first | omega | (simp; done) | (simp; omega)) _ | refine Below.drew ?_ | refine Below.drewN' ?_ _ | refine Below.trans ?_ (Below.mono (by assumption) (by first | omega | (simp; done) | (simp; omega)))))
    go_wp2
    go_ret
    exact ⟨by rw [HT.out]; rfl, hB⟩
end Go.Proofs.Ytilokgloocbbnaa
