/-
  Pacers: what is drawn for the laws; equal pacers are equal.
  Conditions: the code's memory.
-/
import Derived.Laws.StructEq
import Derived.Deep.RegionHeld3
import Derived.Test.YtilokgloocbbnaaRows
import Derived.Test.YtilokgloocbbnaaLib
import Derived.Test.YtilokgloocbbnaaOwn
import Derived.Test.YtilokgloocbbnaaBut
import Derived.Test.YtilokgloocbbnaaDraw
import Derived.Test.YtilokgloocbbnaaInv
import Derived.Test.YtilokgloocbbnaaSlots
import Derived.Test.YtilokgloocbbnaaApp
import Derived.Test.YtilokgloocbbnaaPac
import Derived.Test.YtilokgloocbbnaaPacB
import Derived.Test.YtilokgloocbbnaaPacD
import Derived.Test.YtilokgloocbbnaaPacP
import Derived.Test.YtilokgloocbbnaaPacM
import Derived.Outline
namespace Go.Proofs.Ytilokgloocbbnaa
open Go.RowKit
set_option linter.unusedVariables false
set_option linter.unusedSimpArgs false

theorem PF.more {N N' : Nat} {a b u : Value} {w : World} (h : PF N a b u w) (hN : N' ≤ N) : PF N' a b u w := by
  obtain ⟨ea, cr, xs, h1, h2, h3, h4⟩ := h
  exact ⟨ea, cr, xs, h1, h2, h3, own_more h4 hN⟩
theorem PF.below_ {N : Nat} {a b u : Value} {w w' : World} (h : PF N a b u w) (hb : Below w.heap.size w w') : PF N a b u w' := h.row fun _ _ _ hr => own_below hr hb
theorem PF.only_ {N g : Nat} {a b u : Value} {w w' : World} (h : PF N a b u w) (ho : Only g w w') (hg : g < N) : PF N a b u w' := h.row fun _ _ _ hr => own_only hr ho hg
theorem PF.shape {N : Nat} {a b u : Value} {w : World} (h : PF N a b u w) : ∃ (ea cr : Int) (A : Option Addr) (n c : Nat) (xs : List Wt), a = .int .i64 ea ∧ b = .int .i64 cr ∧ u = .slice A n c ∧ n ≤ 12 ∧ n ≤ c ∧ c ≤ maxLen ∧ Wts w w.heap.size A n xs ∧ ∀ b' o, A = some ⟨b', o, none⟩ → N ≤ b' ∧ b' < w.heap.size := by
  obtain ⟨ea, cr, xs, h1, h2, h3, h4⟩ := h
  obtain ⟨A, c, e, h5, h6, h7⟩ := own_shape h4
  exact ⟨ea, cr, A, _, c, xs, h1, h2, e, h3, h5, h6, h7, fun b' o hA => h4.lt b' (by rw [e, hA]; rfl)⟩

/-- A pacer was drawn. -/
def PacGot (w : World) (y : Ending) (w' : World) : Prop := ∃ a b u, y = .returned (.agg #[a, b, u]) ∧ PF w.heap.size a b u w' ∧ Below w.heap.size w w'
def PacGot2 (w : World) (y : Ending) (w' : World) : Prop := ∃ (a b u : Value) (x : Wt), y = .returned (.tuple #[.agg #[a, b, u], .agg #[.int .i64 x.id, .int .i64 x.cl, .int .i64 x.sz]]) ∧ PF w.heap.size a b u w' ∧ Below w.heap.size w w'

set_option maxHeartbeats 1000000 in
theorem draw_tick (A : Option Addr) (n c : Nat) (w : World) (h : Bytes w w.heap.size A n) (hnc : n ≤ c) (hc : c ≤ maxLen) :
    Calls Try.prog 19 #[.slice A n c] w (PacGot w) := by
  have hres := Bk.new w 25 #[.int .i64 0, .int .i64 0, .slice none 0 0]
  have hall0 := (Below.refl w.heap.size w).alloc (Nat.le_refl _) (.cells #[.int .i64 0, .int .i64 0, .slice none 0 0] 25)
  go_enter Try.func19, Try.ntmps19
  go_wp2_with fail
  refine (open_any A n c _ ((h.below hall0).more (by simp)) hnc hc).mono ?_
  rintro e w1 ⟨rfl, hrd, hb1⟩
  have hB1 := hall0.trans (hb1.mono (by simp))
  have hres1 := hres.below hb1 (by simp)
  simp only [World.size_alloc] at hrd
  have hl1 := hrd.lt
  clear hres hall0 hb1
  go_wp2_with fail
  refine (l92Pacer_any _ _ _ _ hrd (by omega)).mono ?_
  rintro e w2 ⟨a, b, u, rfl, hpf, -, ho⟩
  have hB2 := hB1.trans (ho.below (by omega) (by omega))
  replace hres1 := hres1.only ho (by first | omega | (simp; done) | (simp; omega))
  obtain ⟨ea, cr, xs, rfl, rfl, h12, hown⟩ := hpf
  have hne : w.heap.size < w1.heap.size := by omega
  have HOW := Lib.hid hown
  obtain ⟨A2, c2, rfl, -⟩ := own_shape hown
  clear hown
  have HF := Lib.hid (own_more (own_only HOW.out ((((Only.refl w.heap.size w2).setCell (p := ⟨w.heap.size, 0, none⟩) (.inl rfl) (.int .i64 ea)).setCell (p := ⟨w.heap.size, 1, none⟩) (.inl rfl) (.int .i64 cr)).setCell (p := ⟨w.heap.size, 2, none⟩) (.inl rfl) (.slice A2 xs.length c2)) hne) (base' := w.heap.size) (by omega))
  (try clear hres1_c0); (try clear hres1_f0)
  (try clear hres1_c1); (try clear hres1_f1)
  (try clear hres1_c2); (try clear hres1_f2)
  (try clear hres1_lt)
  have hres1_lt := hres1.lt; (try simp only [World.size_alloc] at hres1_lt)
  have hres1_c0 := hres1.cell 0; have hres1_f0 := hres1.frozen 0
  have hres1_c1 := hres1.cell 1; have hres1_f1 := hres1.frozen 1
  have hres1_c2 := hres1.cell 2; have hres1_f2 := hres1.frozen 2
  simp only [List.getElem?_toArray, List.getElem?_cons_zero, List.getElem?_cons_succ] at hres1_c0 hres1_c1 hres1_c2
  go_wp2
  refine ⟨rfl, ?_⟩
  apply Exists.intro
  apply And.intro
  · simp [results, Try.results19, go_sem, hres1_c0, hres1_c1, hres1_c2, hres1_lt]; exact rfl
  · exact ⟨_, _, _, rfl, ⟨ea, cr, xs, rfl, rfl, h12, HF.out⟩, (by repeat (first | exact Below.refl _ _ | assumption | refine Below.setCell ?_ (by first | omega | (simp; done) | (simp; omega)) _ | refine Below.alloc ?_ (by first | omega | (simp; done) | (simp; omega)) _ | refine Below.drew ?_ | refine Below.drewN' ?_ _ | refine Below.trans ?_ (Below.mono (by assumption) (by first | omega | (simp; done) | (simp; omega)))))⟩

set_option maxHeartbeats 1000000 in
theorem draw_ticks (A : Option Addr) (n c : Nat) (w : World) (h : Bytes w w.heap.size A n) (hnc : n ≤ c) (hc : c ≤ maxLen) :
    Calls Try.prog 22 #[.slice A n c] w (PacGot w) := by
  have hres := Bk.new w 25 #[.int .i64 0, .int .i64 0, .slice none 0 0]
  have hall0 := (Below.refl w.heap.size w).alloc (Nat.le_refl _) (.cells #[.int .i64 0, .int .i64 0, .slice none 0 0] 25)
  go_enter Try.func22, Try.ntmps22
  go_wp2_with fail
  refine (open_any A n c _ ((h.below hall0).more (by simp)) hnc hc).mono ?_
  rintro e w1 ⟨rfl, hrd, hb1⟩
  have hB1 := hall0.trans (hb1.mono (by simp))
  have hres1 := hres.below hb1 (by simp)
  simp only [World.size_alloc] at hrd
  have hl1 := hrd.lt
  clear hres hall0 hb1
  go_wp2_with fail
  refine (l92Pacer_any _ _ _ _ hrd (by omega)).mono ?_
  rintro e w2 ⟨a, b, u, rfl, hpf, -, ho⟩
  have hB2 := hB1.trans (ho.below (by omega) (by omega))
  replace hres1 := hres1.only ho (by first | omega | (simp; done) | (simp; omega))
  obtain ⟨ea, cr, xs, rfl, rfl, h12, hown⟩ := hpf
  have hne : w.heap.size < w1.heap.size := by omega
  have HOW := Lib.hid hown
  obtain ⟨A2, c2, rfl, -⟩ := own_shape hown
  clear hown
  have HF := Lib.hid (own_more (own_only HOW.out ((((Only.refl w.heap.size w2).setCell (p := ⟨w.heap.size, 0, none⟩) (.inl rfl) (.int .i64 ea)).setCell (p := ⟨w.heap.size, 1, none⟩) (.inl rfl) (.int .i64 cr)).setCell (p := ⟨w.heap.size, 2, none⟩) (.inl rfl) (.slice A2 xs.length c2)) hne) (base' := w.heap.size) (by omega))
  (try clear hres1_c0); (try clear hres1_f0)
  (try clear hres1_c1); (try clear hres1_f1)
  (try clear hres1_c2); (try clear hres1_f2)
  (try clear hres1_lt)
  have hres1_lt := hres1.lt; (try simp only [World.size_alloc] at hres1_lt)
  have hres1_c0 := hres1.cell 0; have hres1_f0 := hres1.frozen 0
  have hres1_c1 := hres1.cell 1; have hres1_f1 := hres1.frozen 1
  have hres1_c2 := hres1.cell 2; have hres1_f2 := hres1.frozen 2
  simp only [List.getElem?_toArray, List.getElem?_cons_zero, List.getElem?_cons_succ] at hres1_c0 hres1_c1 hres1_c2
  go_wp2
  refine ⟨rfl, ?_⟩
  apply Exists.intro
  apply And.intro
  · simp [results, Try.results22, go_sem, hres1_c0, hres1_c1, hres1_c2, hres1_lt]; exact rfl
  · exact ⟨_, _, _, rfl, ⟨ea, cr, xs, rfl, rfl, h12, HF.out⟩, (by repeat (first | exact Below.refl _ _ | assumption | refine Below.setCell ?_ (by first | omega | (simp; done) | (simp; omega)) _ | refine Below.alloc ?_ (by first | omega | (simp; done) | (simp; omega)) _ | refine Below.drew ?_ | refine Below.drewN' ?_ _ | refine Below.trans ?_ (Below.mono (by assumption) (by first | omega | (simp; done) | (simp; omega)))))⟩

set_option maxHeartbeats 1000000 in
theorem sameW_same (A A' : Option Addr) (n c c' B : Nat) (xs : List Wt) (w : World) (h : Wts w B A n xs) (h' : Wts w B A' n xs) (hn : n ≤ 1099511627776) :
    Calls Try.prog 18 #[.slice A n c, .slice A' n c'] w fun e w' => e = .returned (.bool true) ∧ ∃ m, w' = w.drewN m := by
  have HL := Lib.hid h.len
  have e0 : ((n : Int) != n) = false := by simp
  go_enter Try.func18, Try.ntmps18
  go_wp2
  go_loopw [5] (fun i wr => ∃ k m : Nat, k ≤ n ∧ i = .int .i64 k ∧ wr = w.drewN m) (fun i _ => n - (intOf i).toNat)
  case atStart => exact ⟨0, 0, by omega, rfl, rfl⟩
  case round =>
    obtain ⟨k, m, hk, rfl, rfl⟩ := hrel
    by_cases hlt : k < n
    · obtain ⟨b, off, rfl, hbB, hcell⟩ := h.addr (by omega)
      obtain ⟨b', off', rfl, hbB', hcell'⟩ := h'.addr (by omega)
      obtain ⟨x, hx⟩ : ∃ x, xs[k]? = some x := ⟨_, List.getElem?_eq_getElem (by rw [HL.out]; exact hlt)⟩
      obtain ⟨c0, c1, c2⟩ := hcell k x hx
      obtain ⟨d0, d1, d2⟩ := hcell' k x hx
      have hk0 : (0 : Int) ≤ (k : Int) := Int.natCast_nonneg _
      have hk1 : (k : Int) < (n : Int) := by omega
      clear hcell hcell' hx
      go_wp2
      go_quiet (fail)
      go_wp2
      go_roundw
      case rel => exact ⟨k + 1, _, by omega, by go_num, rfl⟩
      case measure => simp [intOf]; omega
    · go_wp2
      go_ret
      exact ⟨rfl, m, rfl⟩

set_option maxHeartbeats 1000000 in
theorem sameP_same (ea cr : Int) (A A' : Option Addr) (n c c' B : Nat) (xs : List Wt) (w : World) (h : Wts w B A n xs) (h' : Wts w B A' n xs) (hB : B ≤ w.heap.size) (hn : n ≤ 1099511627776) :
    Calls Try.prog 16 #[.agg #[.int .i64 ea, .int .i64 cr, .slice A n c], .agg #[.int .i64 ea, .int .i64 cr, .slice A' n c']] w fun e w' => e = .returned (.bool true) ∧ Below w.heap.size w w' := by
  go_enter Try.func16, Try.ntmps16
  go_wp2_with fail
  refine (sameW_same A A' n c c' B xs _ ((Sl.alloc (Sl.alloc h hB _) (by simp; omega) _)) ((Sl.alloc (Sl.alloc h' hB _) (by simp; omega) _)) hn).mono ?_
  rintro e w1 ⟨rfl, m, rfl⟩
  go_wp2
  go_ret
  exact ⟨rfl, (by repeat (first | exact Below.refl _ _ | assumption | refine Below.setCell ?_ (by first | omega | (simp; done) | (simp; omega)) _ | refine Below.alloc ?_ (by first | omega | (simp; done) | (simp; omega)) _ | refine Below.drew ?_ | refine Below.drewN' ?_ _ | refine Below.trans ?_ (Below.mono (by assumption) (by first | omega | (simp; done) | (simp; omega)))))⟩
end Go.Proofs.Ytilokgloocbbnaa
