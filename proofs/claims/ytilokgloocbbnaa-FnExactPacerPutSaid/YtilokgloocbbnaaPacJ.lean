/-
  PacerTick of both.
  Conditions: as each theorem states them.
-/
import Derived.Deep.RegionHeld3
import Derived.Test.YtilokgloocbbnaaRows
import Derived.Test.YtilokgloocbbnaaLib
import Derived.Test.YtilokgloocbbnaaOwn
import Derived.Test.YtilokgloocbbnaaBut
import Derived.Test.YtilokgloocbbnaaDraw
import Derived.Test.YtilokgloocbbnaaInv
import Derived.Test.YtilokgloocbbnaaSlots
import Derived.Test.YtilokgloocbbnaaApp
import Derived.Test.YtilokgloocbbnaaPac
import Derived.Test.YtilokgloocbbnaaPacB
import Derived.Test.YtilokgloocbbnaaPacP
import Derived.Test.YtilokgloocbbnaaPacE
import Derived.Test.YtilokgloocbbnaaPacF
import Derived.Test.YtilokgloocbbnaaPacG
import Derived.Test.YtilokgloocbbnaaPacI
import Derived.Outline
namespace Go.Proofs.Ytilokgloocbbnaa
open Go.RowKit
set_option linter.unusedVariables false
set_option linter.unusedSimpArgs false

def tick3 (ea cr : Int) (xs : List Wt) (w : World) (y : Ending) (w' : World) : Prop := ∃ v u, y = .returned (.tuple #[.agg #[.int .i64 ea, .int .i64 (nx ea cr xs), v], u, .bool true]) ∧ Ticked ea cr xs w v u w'
def tickBad (w : World) (y : Ending) (w' : World) : Prop := ∃ g, y = .returned (.tuple #[.agg #[.int .i64 0, .int .i64 0, .slice none 0 0], .slice (some ⟨g, 0, none⟩) 0 0, .bool false]) ∧ Below w.heap.size w w'
theorem Ticked.more {ea cr : Int} {xs : List Wt} {w w1 w2 : World} {v u : Value} (h : Ticked ea cr xs w1 v u w2) (hb : Below w.heap.size w w1) : Ticked ea cr xs w v u w2 :=
  ⟨own_more h.1 hb.size, own_more h.2.1 hb.size, h.2.2.1, hb.trans (h.2.2.2.mono hb.size)⟩
theorem Ticked.only {ea cr : Int} {xs : List Wt} {w w0 w1 w2 : World} {v u : Value} {R : Nat} (h : Ticked ea cr xs w0 v u w1) (hb : Below w.heap.size w w0) (ho : Only R w1 w2) (hR : w.heap.size ≤ R) (hR2 : R < w0.heap.size) : Ticked ea cr xs w v u w2 :=
  ⟨own_more (own_only h.1 ho hR2) hb.size, own_more (own_only h.2.1 ho hR2) hb.size, h.2.2.1, (hb.trans (h.2.2.2.mono hb.size)).trans (ho.below hR (by have := h.2.2.2.size; have := hb.size; omega))⟩

set_option maxHeartbeats 4000000 in
theorem stick_bad (ea cr : Int) (A : Option Addr) (n c : Nat) (xs : List Wt) (w : World) (h : Wts w w.heap.size A n xs) (hn : n ≤ 1099511627776) (hno : ¬ pOk ea cr xs) :
    Calls Try.prog 21 #[.agg #[.int .i64 ea, .int .i64 cr, .slice A n c]] w (tickBad w) := by
  have hP := (Bk.new w 25 #[.int .i64 ea, .int .i64 cr, .slice A n c]).alloc (.cells #[.int .i64 0, .int .i64 0, .slice none 0 0] 25)
  have hR := Bk.new (w.alloc (.cells #[.int .i64 ea, .int .i64 cr, .slice A n c] 25)) 25 #[.int .i64 0, .int .i64 0, .slice none 0 0]
  simp only [World.size_alloc] at hR
  have hv := fun w h => spv_any ea cr A n c xs w h hn
  rw [pB_false.2 hno] at hv
  have HV := Lib.hid hv
  clear hv hno
  go_enter Try.func21, Try.ntmps21
  go_wp2_with fail
  refine (HV.out _ ?_).mono ?_
  · exact (Wts.below h (by repeat (first | exact Below.refl _ _ | assumption | refine Below.setCell ?_ (by first | omega | (simp; done) | (simp; omega)) _ | refine Below.alloc ?_ (by first | omega | (simp; done) | (simp; omega)) _ | refine Below.drew ?_ | refine Below.drewN' ?_ _ | refine Below.trans ?_ (Below.mono (by assumption) (by first | omega | (simp; done) | (simp; omega)))))).more (by simp; omega)
  rintro y w1 ⟨rfl, hb1⟩
  replace hP := hP.below hb1 (by first | omega | exact hP.lt | (simp; done) | (simp; omega))
  (try clear hP_c0); (try clear hP_f0)
  (try clear hP_c1); (try clear hP_f1)
  (try clear hP_c2); (try clear hP_f2)
  (try clear hP_lt)
  have hP_lt := hP.lt; (try simp only [World.size_alloc] at hP_lt)
  have hP_c0 := hP.cell 0; have hP_f0 := hP.frozen 0
  have hP_c1 := hP.cell 1; have hP_f1 := hP.frozen 1
  have hP_c2 := hP.cell 2; have hP_f2 := hP.frozen 2
  simp only [List.getElem?_toArray, List.getElem?_cons_zero, List.getElem?_cons_succ] at hP_c0 hP_c1 hP_c2
  replace hR := hR.below hb1 (by first | omega | exact hR.lt | (simp; done) | (simp; omega))
  (try clear hR_c0); (try clear hR_f0)
  (try clear hR_c1); (try clear hR_f1)
  (try clear hR_c2); (try clear hR_f2)
  (try clear hR_lt)
  have hR_lt := hR.lt; (try simp only [World.size_alloc] at hR_lt)
  have hR_c0 := hR.cell 0; have hR_f0 := hR.frozen 0
  have hR_c1 := hR.cell 1; have hR_f1 := hR.frozen 1
  have hR_c2 := hR.cell 2; have hR_f2 := hR.frozen 2
  simp only [List.getElem?_toArray, List.getElem?_cons_zero, List.getElem?_cons_succ] at hR_c0 hR_c1 hR_c2
  have hB : Below w.heap.size w w1 := (by repeat (first | exact Below.refl _ _ | assumption | refine Below.setCell ?_ (by first | omega | (simp; done) | (simp; omega)) _ | refine Below.alloc ?_ (by first | omega | (simp; done) | (simp; omega)) _ | refine Below.drew ?_ | refine Below.drewN' ?_ _ | refine Below.trans ?_ (Below.mono (by assumption) (by first | omega | (simp; done) | (simp; omega)))))
  clear hb1
  go_wp2
  refine ⟨rfl, ?_⟩
  apply Exists.intro
  apply And.intro
  · simp [results, Try.results21, go_sem, hR_c0, hR_c1, hR_c2, hR_lt]; exact rfl
  · exact ⟨_, rfl, (by repeat (first | exact Below.refl _ _ | assumption | refine Below.setCell ?_ (by first | omega | (simp; done) | (simp; omega)) _ | refine Below.alloc ?_ (by first | omega | (simp; done) | (simp; omega)) _ | refine Below.drew ?_ | refine Below.drewN' ?_ _ | refine Below.trans ?_ (Below.mono (by assumption) (by first | omega | (simp; done) | (simp; omega)))))⟩

set_option maxHeartbeats 4000000 in
theorem stick_good (ea cr : Int) (A : Option Addr) (n c : Nat) (xs : List Wt) (w : World) (h : Wts w w.heap.size A n xs) (hnc : n ≤ c) (hc : c ≤ maxLen) (hp : pOk ea cr xs) :
    Calls Try.prog 21 #[.agg #[.int .i64 ea, .int .i64 cr, .slice A n c]] w (tick3 ea cr xs w) := by
  have HL := Lib.hid h.len
  have hn12 : n ≤ 12 := by have := hp.2.2.2.2.1; rw [HL.out] at this; exact this
  have hP := (Bk.new w 25 #[.int .i64 ea, .int .i64 cr, .slice A n c]).alloc (.cells #[.int .i64 0, .int .i64 0, .slice none 0 0] 25)
  have hR := Bk.new (w.alloc (.cells #[.int .i64 ea, .int .i64 cr, .slice A n c] 25)) 25 #[.int .i64 0, .int .i64 0, .slice none 0 0]
  simp only [World.size_alloc] at hR
  have hv := fun w h => spv_any ea cr A n c xs w h (by omega)
  rw [pB_true.2 hp] at hv
  have HV := Lib.hid hv
  have HP := Lib.hid hp
  clear hv hp
  go_enter Try.func21, Try.ntmps21
  go_wp2_with fail
  refine (HV.out _ ?_).mono ?_
  · exact (Wts.below h (by repeat (first | exact Below.refl _ _ | assumption | refine Below.setCell ?_ (by first | omega | (simp; done) | (simp; omega)) _ | refine Below.alloc ?_ (by first | omega | (simp; done) | (simp; omega)) _ | refine Below.drew ?_ | refine Below.drewN' ?_ _ | refine Below.trans ?_ (Below.mono (by assumption) (by first | omega | (simp; done) | (simp; omega)))))).more (by simp; omega)
  rintro y w1 ⟨rfl, hb1⟩
  replace hP := hP.below hb1 (by first | omega | exact hP.lt | (simp; done) | (simp; omega))
  (try clear hP_c0); (try clear hP_f0)
  (try clear hP_c1); (try clear hP_f1)
  (try clear hP_c2); (try clear hP_f2)
  (try clear hP_lt)
  have hP_lt := hP.lt; (try simp only [World.size_alloc] at hP_lt)
  have hP_c0 := hP.cell 0; have hP_f0 := hP.frozen 0
  have hP_c1 := hP.cell 1; have hP_f1 := hP.frozen 1
  have hP_c2 := hP.cell 2; have hP_f2 := hP.frozen 2
  simp only [List.getElem?_toArray, List.getElem?_cons_zero, List.getElem?_cons_succ] at hP_c0 hP_c1 hP_c2
  replace hR := hR.below hb1 (by first | omega | exact hR.lt | (simp; done) | (simp; omega))
  (try clear hR_c0); (try clear hR_f0)
  (try clear hR_c1); (try clear hR_f1)
  (try clear hR_c2); (try clear hR_f2)
  (try clear hR_lt)
  have hR_lt := hR.lt; (try simp only [World.size_alloc] at hR_lt)
  have hR_c0 := hR.cell 0; have hR_f0 := hR.frozen 0
  have hR_c1 := hR.cell 1; have hR_f1 := hR.frozen 1
  have hR_c2 := hR.cell 2; have hR_f2 := hR.frozen 2
  simp only [List.getElem?_toArray, List.getElem?_cons_zero, List.getElem?_cons_succ] at hR_c0 hR_c1 hR_c2
  have hB : Below w.heap.size w w1 := (by repeat (first | exact Below.refl _ _ | assumption | refine Below.setCell ?_ (by first | omega | (simp; done) | (simp; omega)) _ | refine Below.alloc ?_ (by first | omega | (simp; done) | (simp; omega)) _ | refine Below.drew ?_ | refine Below.drewN' ?_ _ | refine Below.trans ?_ (Below.mono (by assumption) (by first | omega | (simp; done) | (simp; omega)))))
  clear hb1
  have hbs := hB.size
  have hRl1 : w.heap.size + 1 < w1.heap.size := hR.lt
  go_wp2_with fail
  refine (l22Tick_any ea cr A n c xs w1 ((Wts.below h hB).more hbs) hnc hc HP.out).mono ?_
  rintro y w2 ⟨v, u, rfl, ht⟩
  have hbt := ht.2.2.2
  obtain ⟨A2, c2, rfl, -⟩ := own_shape ht.1
  replace hP := hP.below hbt (by first | omega | exact hP.lt | (simp; done) | (simp; omega))
  (try clear hP_c0); (try clear hP_f0)
  (try clear hP_c1); (try clear hP_f1)
  (try clear hP_c2); (try clear hP_f2)
  (try clear hP_lt)
  have hP_lt := hP.lt; (try simp only [World.size_alloc] at hP_lt)
  have hP_c0 := hP.cell 0; have hP_f0 := hP.frozen 0
  have hP_c1 := hP.cell 1; have hP_f1 := hP.frozen 1
  have hP_c2 := hP.cell 2; have hP_f2 := hP.frozen 2
  simp only [List.getElem?_toArray, List.getElem?_cons_zero, List.getElem?_cons_succ] at hP_c0 hP_c1 hP_c2
  replace hR := hR.below hbt (by first | omega | exact hR.lt | (simp; done) | (simp; omega))
  (try clear hR_c0); (try clear hR_f0)
  (try clear hR_c1); (try clear hR_f1)
  (try clear hR_c2); (try clear hR_f2)
  (try clear hR_lt)
  have hR_lt := hR.lt; (try simp only [World.size_alloc] at hR_lt)
  have hR_c0 := hR.cell 0; have hR_f0 := hR.frozen 0
  have hR_c1 := hR.cell 1; have hR_f1 := hR.frozen 1
  have hR_c2 := hR.cell 2; have hR_f2 := hR.frozen 2
  simp only [List.getElem?_toArray, List.getElem?_cons_zero, List.getElem?_cons_succ] at hR_c0 hR_c1 hR_c2
  have hX := Bk.new w2 25 #[.int .i64 ea, .int .i64 (nx ea cr xs), .slice A2 (rs ea cr xs).length c2]
  have hFin := (((hR.set_ 0 (.int .i64 ea)).set_ 1 (.int .i64 (nx ea cr xs))).set_ 2 (.slice A2 (rs ea cr xs).length c2)).alloc (.cells #[.int .i64 ea, .int .i64 (nx ea cr xs), .slice A2 (rs ea cr xs).length c2] 25)
  simp only [List.setIfInBounds_toArray, List.set_cons_zero, List.set_cons_succ] at hFin
  have hOn := ((((Only.refl (w.heap.size + 1) w2).setCell (p := ⟨w.heap.size + 1, 0, none⟩) (.inl rfl) (.int .i64 ea)).setCell (p := ⟨w.heap.size + 1, 1, none⟩) (.inl rfl) (.int .i64 (nx ea cr xs))).setCell (p := ⟨w.heap.size + 1, 2, none⟩) (.inl rfl) (.slice A2 (rs ea cr xs).length c2)).alloc (.cells #[.int .i64 ea, .int .i64 (nx ea cr xs), .slice A2 (rs ea cr xs).length c2] 25)
  have HT := Lib.hid (ht.only hB hOn (by omega) hRl1)
  clear ht hbt hOn
  (try clear hX_c0); (try clear hX_f0)
  (try clear hX_c1); (try clear hX_f1)
  (try clear hX_c2); (try clear hX_f2)
  (try clear hX_lt)
  have hX_lt := hX.lt; (try simp only [World.size_alloc] at hX_lt)
  have hX_c0 := hX.cell 0; have hX_f0 := hX.frozen 0
  have hX_c1 := hX.cell 1; have hX_f1 := hX.frozen 1
  have hX_c2 := hX.cell 2; have hX_f2 := hX.frozen 2
  simp only [List.getElem?_toArray, List.getElem?_cons_zero, List.getElem?_cons_succ] at hX_c0 hX_c1 hX_c2
  (try clear hR_c0); (try clear hR_f0)
  (try clear hR_c1); (try clear hR_f1)
  (try clear hR_c2); (try clear hR_f2)
  (try clear hR_lt)
  have hR_lt := hR.lt; (try simp only [World.size_alloc] at hR_lt)
  have hR_c0 := hR.cell 0; have hR_f0 := hR.frozen 0
  have hR_c1 := hR.cell 1; have hR_f1 := hR.frozen 1
  have hR_c2 := hR.cell 2; have hR_f2 := hR.frozen 2
  simp only [List.getElem?_toArray, List.getElem?_cons_zero, List.getElem?_cons_succ] at hR_c0 hR_c1 hR_c2
  have hFl := hFin.lt
  go_wp2
  (try clear hFin_c0); (try clear hFin_f0)
  (try clear hFin_c1); (try clear hFin_f1)
  (try clear hFin_c2); (try clear hFin_f2)
  (try clear hFin_lt)
  have hFin_lt := hFin.lt; (try simp only [World.size_alloc] at hFin_lt)
  have hFin_c0 := hFin.cell 0; have hFin_f0 := hFin.frozen 0
  have hFin_c1 := hFin.cell 1; have hFin_f1 := hFin.frozen 1
  have hFin_c2 := hFin.cell 2; have hFin_f2 := hFin.frozen 2
  simp only [List.getElem?_toArray, List.getElem?_cons_zero, List.getElem?_cons_succ] at hFin_c0 hFin_c1 hFin_c2
  refine ⟨rfl, ?_⟩
  apply Exists.intro
  apply And.intro
  · simp [results, Try.results21, go_sem, hFin_c0, hFin_c1, hFin_c2, hFin_lt]; exact rfl
  · exact ⟨_, _, rfl, HT.out⟩
end Go.Proofs.Ytilokgloocbbnaa
