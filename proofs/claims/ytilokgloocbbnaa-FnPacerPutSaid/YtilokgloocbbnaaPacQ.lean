/-
  Pacers: what is drawn for the law of the put.
  Conditions: the code's memory.
-/
import Derived.Laws.StructEq
import Derived.Deep.RegionHeld3
import Derived.Test.YtilokgloocbbnaaRows
import Derived.Test.YtilokgloocbbnaaLib
import Derived.Test.YtilokgloocbbnaaOwn
import Derived.Test.YtilokgloocbbnaaBut
import Derived.Test.YtilokgloocbbnaaDraw
import Derived.Test.YtilokgloocbbnaaInv
import Derived.Test.YtilokgloocbbnaaSlots
import Derived.Test.YtilokgloocbbnaaApp
import Derived.Test.YtilokgloocbbnaaPac
import Derived.Test.YtilokgloocbbnaaPacB
import Derived.Test.YtilokgloocbbnaaPacD
import Derived.Test.YtilokgloocbbnaaPacM
import Derived.Test.YtilokgloocbbnaaPacN
import Derived.Test.YtilokgloocbbnaaPacO
import Derived.Outline
namespace Go.Proofs.Ytilokgloocbbnaa
open Go.RowKit
set_option linter.unusedVariables false
set_option linter.unusedSimpArgs false

theorem Wts.bw {w : World} {A : Option Addr} {n : Nat} {xs : List Wt} (h : Wts w w.heap.size A n xs) (x : BW w.heap.size w) : Wts x.1 x.1.heap.size A n xs := (h.below x.2).more x.2.size
theorem Wts.take_ {w : World} {B n k : Nat} {A : Option Addr} {xs : List Wt} (h : Wts w B A n xs) (hk : k ≤ n) : Wts w B A k (xs.take k) := by
  have := Sl.take_ h hk
  rwa [flat_take] at this
theorem Wts.drop_ {w : World} {B n k c b off : Nat} {xs : List Wt} (h : Wts w B (some ⟨b, off, none⟩) n xs) (hk : k ≤ n) (hc : n ≤ c) (hkc : c ≠ k) : Wts w B (some ⟨b, off + k * 3, none⟩) (n - k) (xs.drop k) := by
  have := Sl.drop_ h hk hc
  rw [flat_drop, if_neg hkc, Option.map_some, add_plain] at this
  exact this
theorem But.set3 {X : Nat → Prop} {a b : World} {g : Nat} (h : But X a b) (hg : X g) (u0 u1 u2 : Value) : But X a (((b.setCell ⟨g, 0, none⟩ u0).setCell ⟨g, 1, none⟩ u1).setCell ⟨g, 2, none⟩ u2) :=
  ((h.setCell (p := ⟨g, 0, none⟩) (.inl hg) u0).setCell (p := ⟨g, 1, none⟩) (.inl hg) u1).setCell (p := ⟨g, 2, none⟩) (.inl hg) u2
/-- One of two blocks. -/
def Two (a b : Nat) (k : Nat) : Prop := k = a ∨ k = b
set_option maxHeartbeats 2000000 in
theorem draw_pput (A : Option Addr) (n c : Nat) (w : World) (h : Bytes w w.heap.size A n) (hnc : n ≤ c) (hc : c ≤ maxLen) :
    Calls Try.prog 13 #[.slice A n c] w (PacGot2 w) := by
  have hres := (Bk.new w 25 #[.int .i64 0, .int .i64 0, .slice none 0 0]).alloc (.cells #[.int .i64 0, .int .i64 0, .int .i64 0] 27)
  have hre2 := Bk.new (w.alloc (.cells #[.int .i64 0, .int .i64 0, .slice none 0 0] 25)) 27 #[.int .i64 0, .int .i64 0, .int .i64 0]
  have hall0 : Below w.heap.size w ((w.alloc (.cells #[.int .i64 0, .int .i64 0, .slice none 0 0] 25)).alloc (.cells #[.int .i64 0, .int .i64 0, .int .i64 0] 27)) := (by repeat (first | exact Below.refl _ _ | assumption | refine Below.setCell ?_ (by first | omega | (simp; done) | (simp; omega)) _ | refine Below.alloc ?_ (by first | omega | (simp; done) | (simp; omega)) _ | refine Below.drew ?_ | refine Below.drewN' ?_ _ | refine Below.trans ?_ (Below.mono (by assumption) (by first | omega | (simp; done) | (simp; omega)))))
  simp only [World.size_alloc] at hre2
  go_enter Try.func13, Try.ntmps13
  go_wp2_with fail
  refine (open_any A n c _ ((h.below hall0).more (by simp; omega)) hnc hc).mono ?_
  rintro e w1 ⟨rfl, hrd, hb1⟩
  have hB1 := hall0.trans (hb1.mono (by simp; omega))
  have hres1 := hres.below hb1 (by simp; omega)
  have hre21 := hre2.below hb1 (by simp)
  simp only [World.size_alloc] at hrd
  have hl1 := hrd.lt
  clear hres hre2 hall0 hb1
  go_wp2_with fail
  refine (l92Pacer_any _ _ _ _ hrd (by omega)).mono ?_
  rintro e w2 ⟨a, b, u, rfl, hpf, hrd2, ho⟩
  have hB2 := hB1.trans (ho.below (by omega) (by omega))
  replace hres1 := hres1.only ho (by first | omega | (simp; done) | (simp; omega))
  replace hre21 := hre21.only ho (by first | omega | (simp; done) | (simp; omega))
  obtain ⟨ea, cr, xs, rfl, rfl, h12, hown⟩ := hpf
  have hne : w.heap.size + 1 + 1 < w1.heap.size := by omega
  have HOW := Lib.hid hown
  obtain ⟨A2, c2, rfl, -⟩ := own_shape hown
  have hbs := hB2.size
  have hl2 := hrd2.lt
  have hb3 : Below w2.heap.size w2 (w2.alloc (.cells #[.int .i64 ea, .int .i64 cr, .slice A2 xs.length c2] 25)) := (by repeat (first | exact Below.refl _ _ | assumption | refine Below.setCell ?_ (by first | omega | (simp; done) | (simp; omega)) _ | refine Below.alloc ?_ (by first | omega | (simp; done) | (simp; omega)) _ | refine Below.drew ?_ | refine Below.drewN' ?_ _ | refine Below.trans ?_ (Below.mono (by assumption) (by first | omega | (simp; done) | (simp; omega)))))
  have hX := Bk.new w2 25 #[.int .i64 ea, .int .i64 cr, .slice A2 xs.length c2]
  replace hres1 := hres1.below hb3 hres1.lt
  replace hre21 := hre21.below hb3 hre21.lt
  have hB3 := hB2.trans (hb3.mono hbs)
  have HOW3 := Lib.hid (own_below HOW.out hb3)
  have hrd3 := hrd2.below hb3
  clear hown hrd ho hb3 hrd2 hB1
  (try clear hX_c0); (try clear hX_f0)
  (try clear hX_c1); (try clear hX_f1)
  (try clear hX_c2); (try clear hX_f2)
  (try clear hX_lt)
  have hX_lt := hX.lt; (try simp only [World.size_alloc] at hX_lt)
  have hX_c0 := hX.cell 0; have hX_f0 := hX.frozen 0
  have hX_c1 := hX.cell 1; have hX_f1 := hX.frozen 1
  have hX_c2 := hX.cell 2; have hX_f2 := hX.frozen 2
  simp only [List.getElem?_toArray, List.getElem?_cons_zero, List.getElem?_cons_succ] at hX_c0 hX_c1 hX_c2
  go_wp2_with fail
  have HX := Lib.hid hX
  have hn : ¬ Two w.heap.size (w.heap.size + 1) w2.heap.size := by unfold Two; omega
  have HRD := Lib.hid hrd3.drew
  have HKB : 0 + 1000 ≤ 1099511620000 := by omega
  have HR := Lib.hid hres1
  have HR2 := Lib.hid hre21
  clear hX hres1 hre21
  go_region_held3 (fun w' => w'.cell? ⟨w2.heap.size, 0, none⟩ = some (.int .i64 ea) ∧ w'.cell? ⟨w2.heap.size, 1, none⟩ = some (.int .i64 cr) ∧ w'.cell? ⟨w2.heap.size, 2, none⟩ = some (.slice A2 xs.length c2)) (first | with_reducible exact ⟨x0, x1, x2⟩ | with_reducible exact ⟨hE1.cell x0 hn, hE1.cell x1 hn, hE1.cell x2 hn⟩ | with_reducible exact ⟨hE2.cell x0 hn, hE2.cell x1 hn, hE2.cell x2 hn⟩ | exact ⟨hX_c0, hX_c1, hX_c2⟩)
    ((go_at_call 36; (with_reducible refine (l92Waiting_any _ _ _ _ HRD.out HKB).mono ?_); rintro e w4 ⟨x, rfl, -, ho4⟩; have hE1 := But.set3 (But.refl (Two w.heap.size (w.heap.size + 1)) w4) (Or.inl rfl) (.int .i64 ea) (.int .i64 cr) (.slice A2 xs.length c2); have hE2 := But.set3 hE1 (Or.inr rfl) (.int .i64 x.id) (.int .i64 x.cl) (.int .i64 x.sz); have hX4 := HX.out.drew.only ho4 (by omega); have hR4 := HR.out.drew.only ho4 (by omega); have hS4 := HR2.out.drew.only ho4 (by omega); have x0 := hX4.cell 0; have x1 := hX4.cell 1; have x2 := hX4.cell 2; have r0 := hR4.cell 0; have r1 := hR4.cell 1; have r2 := hR4.cell 2; have f0 := hR4.frozen 0; have f1 := hR4.frozen 1; have f2 := hR4.frozen 2; have s0 := hS4.cell 0; have s1 := hS4.cell 1; have s2 := hS4.cell 2; have g0 := hS4.frozen 0; have g1 := hS4.frozen 1; have g2 := hS4.frozen 2; simp only [List.getElem?_toArray, List.getElem?_cons_zero, List.getElem?_cons_succ] at x0 x1 x2 r0 r1 r2 s0 s1 s2))
  clear x0 x1 x2 r0 r1 r2 f0 f1 f2 s0 s1 s2 g0 g1 g2
  have hB4 : Below w.heap.size w w4 := hB3.drew.trans (ho4.below (by omega) (by show w.heap.size ≤ (w2.alloc _).heap.size; simp; omega))
  have HOW4 := Lib.hid (own_only (HOW3.out.drew) ho4 (by omega))
  have HF := Lib.hid (own_more (own_but HOW4.out hE2 fun k hk he => by
    have := (HOW4.out.lt k hk).1
    unfold Two at he
    omega) (base' := w.heap.size) (by omega))
  have HBF := Lib.hid (hB4.trans (hE2.below (B := w.heap.size) (fun k hk => by unfold Two at hk; omega) hB4.size))
  clear ho4 hE1 hE2
  (try clear hR4_c0); (try clear hR4_f0)
  (try clear hR4_c1); (try clear hR4_f1)
  (try clear hR4_c2); (try clear hR4_f2)
  (try clear hR4_lt)
  have hR4_lt := hR4.lt; (try simp only [World.size_alloc] at hR4_lt)
  have hR4_c0 := hR4.cell 0; have hR4_f0 := hR4.frozen 0
  have hR4_c1 := hR4.cell 1; have hR4_f1 := hR4.frozen 1
  have hR4_c2 := hR4.cell 2; have hR4_f2 := hR4.frozen 2
  simp only [List.getElem?_toArray, List.getElem?_cons_zero, List.getElem?_cons_succ] at hR4_c0 hR4_c1 hR4_c2
  (try clear hS4_c0); (try clear hS4_f0)
  (try clear hS4_c1); (try clear hS4_f1)
  (try clear hS4_c2); (try clear hS4_f2)
  (try clear hS4_lt)
  have hS4_lt := hS4.lt; (try simp only [World.size_alloc] at hS4_lt)
  have hS4_c0 := hS4.cell 0; have hS4_f0 := hS4.frozen 0
  have hS4_c1 := hS4.cell 1; have hS4_f1 := hS4.frozen 1
  have hS4_c2 := hS4.cell 2; have hS4_f2 := hS4.frozen 2
  simp only [List.getElem?_toArray, List.getElem?_cons_zero, List.getElem?_cons_succ] at hS4_c0 hS4_c1 hS4_c2
  go_wp2
  refine ⟨rfl, ?_⟩
  apply Exists.intro
  apply And.intro
  · simp [results, Try.results13, go_sem, hR4_c0, hR4_c1, hR4_c2, hS4_c0, hS4_c1, hS4_c2, hR4_lt, hS4_lt]; exact rfl
  · exact ⟨_, _, _, x, rfl, ⟨ea, cr, xs, rfl, rfl, h12, HF.out⟩, HBF.out⟩
end Go.Proofs.Ytilokgloocbbnaa
