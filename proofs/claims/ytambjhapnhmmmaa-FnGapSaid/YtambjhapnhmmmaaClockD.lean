/-
  Clocks: the draw of two clocks.
  Conditions: the code's memory.
-/
import Derived.Test.YtambjhapnhmmmaaRows
import Derived.Test.YtambjhapnhmmmaaLib
import Derived.Test.YtambjhapnhmmmaaDraw
import Derived.Test.YtambjhapnhmmmaaClock
import Derived.Test.YtambjhapnhmmmaaClockC
namespace Go.Proofs.Ytambjhapnhmmmaa
open Go.RowKit
set_option linter.unusedVariables false

/-- What holds while the region of two picks runs: the reader, both results' variables, both clocks. -/
def GapI (N g5 g6 : Nat) (a b c a' b' c' : Int) (w W : World) (K : Nat) : Prop :=
  Rd W (N + 1 + 1) (N + 1 + 1) K ∧ Bk W N 40 #[.int .i64 0, .int .i64 0, .int .i64 0] ∧ Bk W (N + 1) 40 #[.int .i64 0, .int .i64 0, .int .i64 0] ∧
  Bk W g5 40 #[.int .i64 a, .int .i64 b, .int .i64 c] ∧ Bk W g6 40 #[.int .i64 a', .int .i64 b', .int .i64 c'] ∧ Below N w W ∧ N + 2 < W.heap.size

section
variable {N g5 g6 K : Nat} {a b c a' b' c' : Int} {w W : World}
theorem GapI.c0 (h : GapI N g5 g6 a b c a' b' c' w W K) : W.cell? ⟨g5, 0, none⟩ = some (.int .i64 a) := h.2.2.2.1.cell 0
theorem GapI.c1 (h : GapI N g5 g6 a b c a' b' c' w W K) : W.cell? ⟨g5, 1, none⟩ = some (.int .i64 b) := h.2.2.2.1.cell 1
theorem GapI.c2 (h : GapI N g5 g6 a b c a' b' c' w W K) : W.cell? ⟨g5, 2, none⟩ = some (.int .i64 c) := h.2.2.2.1.cell 2
theorem GapI.k0 (h : GapI N g5 g6 a b c a' b' c' w W K) : W.cell? ⟨g6, 0, none⟩ = some (.int .i64 a') := h.2.2.2.2.1.cell 0
theorem GapI.k1 (h : GapI N g5 g6 a b c a' b' c' w W K) : W.cell? ⟨g6, 1, none⟩ = some (.int .i64 b') := h.2.2.2.2.1.cell 1
theorem GapI.k2 (h : GapI N g5 g6 a b c a' b' c' w W K) : W.cell? ⟨g6, 2, none⟩ = some (.int .i64 c') := h.2.2.2.2.1.cell 2
theorem GapI.e0 (h : GapI N g5 g6 a b c a' b' c' w W K) : W.cell? ⟨N, 0, none⟩ = some (.int .i64 0) := h.2.1.cell 0
theorem GapI.f0 (h : GapI N g5 g6 a b c a' b' c' w W K) : W.frozen? ⟨N, 0, none⟩ = false := h.2.1.frozen 0
theorem GapI.e1 (h : GapI N g5 g6 a b c a' b' c' w W K) : W.cell? ⟨N, 1, none⟩ = some (.int .i64 0) := h.2.1.cell 1
theorem GapI.f1 (h : GapI N g5 g6 a b c a' b' c' w W K) : W.frozen? ⟨N, 1, none⟩ = false := h.2.1.frozen 1
theorem GapI.e2 (h : GapI N g5 g6 a b c a' b' c' w W K) : W.cell? ⟨N, 2, none⟩ = some (.int .i64 0) := h.2.1.cell 2
theorem GapI.f2 (h : GapI N g5 g6 a b c a' b' c' w W K) : W.frozen? ⟨N, 2, none⟩ = false := h.2.1.frozen 2
theorem GapI.p0 (h : GapI N g5 g6 a b c a' b' c' w W K) : W.cell? ⟨N + 1, 0, none⟩ = some (.int .i64 0) := h.2.2.1.cell 0
theorem GapI.q0 (h : GapI N g5 g6 a b c a' b' c' w W K) : W.frozen? ⟨N + 1, 0, none⟩ = false := h.2.2.1.frozen 0
theorem GapI.p1 (h : GapI N g5 g6 a b c a' b' c' w W K) : W.cell? ⟨N + 1, 1, none⟩ = some (.int .i64 0) := h.2.2.1.cell 1
theorem GapI.q1 (h : GapI N g5 g6 a b c a' b' c' w W K) : W.frozen? ⟨N + 1, 1, none⟩ = false := h.2.2.1.frozen 1
theorem GapI.p2 (h : GapI N g5 g6 a b c a' b' c' w W K) : W.cell? ⟨N + 1, 2, none⟩ = some (.int .i64 0) := h.2.2.1.cell 2
theorem GapI.q2 (h : GapI N g5 g6 a b c a' b' c' w W K) : W.frozen? ⟨N + 1, 2, none⟩ = false := h.2.2.1.frozen 2

theorem pick_gap {m : Int} (h5 : N + 2 < g5) (h6 : g5 < g6) (h : GapI N g5 g6 a b c a' b' c' w W K) (hK : K ≤ 100) (hm : 1 ≤ m ∧ m ≤ 1000) :
    Calls Try.prog 37 #[.pointer (some ⟨N + 1 + 1, 0, none⟩), .int .i64 m] W fun e W' => ∃ r : Int, e = .returned (.int .i64 r) ∧ GapI N g5 g6 a b c a' b' c' w W' (K + 1) := by
  obtain ⟨h1, h2, h3, h4, h7, h8, h9⟩ := h
  refine (pick_any _ _ _ _ _ h1 (by omega) (by omega)).mono ?_
  rintro e W' ⟨r, rfl, _, _, hrd, ho, _⟩
  have hs := ho.size
  exact ⟨r, rfl, hrd, h2.only ho (by omega), h3.only ho (by omega), h4.only ho (by have := h1.lt; omega), h7.only ho (by omega), h8.trans (ho.below (by omega) (by omega)), by omega⟩
end

def ClockGapDrawn (w : World) (e : Ending) (w' : World) : Prop :=
  ∃ a b c m a' b' c' m' : Int, e = .returned (.tuple #[.agg #[.int .i64 a, .int .i64 b, .int .i64 c], .int .i64 m, .agg #[.int .i64 a', .int .i64 b', .int .i64 c'], .int .i64 m']) ∧ Below w.heap.size w w'

set_option maxHeartbeats 8000000 in
theorem draw_cgap (A : Option Addr) (n c : Nat) (w : World) (h : Bytes w w.heap.size A n) (hnc : n ≤ c) (hc : c ≤ maxLen) :
    Calls Try.prog 30 #[.slice A n c] w (ClockGapDrawn w) := by
  have hall0 := fun o => (Below.refl w.heap.size w).alloc (Nat.le_refl _) o
  have hres := (Bk.new w 40 #[.int .i64 0, .int .i64 0, .int .i64 0]).alloc (.cells #[.int .i64 0, .int .i64 0, .int .i64 0] 40)
  have hresb := Bk.new (w.alloc (.cells #[.int .i64 0, .int .i64 0, .int .i64 0] 40)) 40 #[.int .i64 0, .int .i64 0, .int .i64 0]
  rw [World.size_alloc] at hresb
  have hall1 : Below w.heap.size w ((w.alloc (.cells #[.int .i64 0, .int .i64 0, .int .i64 0] 40)).alloc (.cells #[.int .i64 0, .int .i64 0, .int .i64 0] 40)) := (by repeat (first | exact Below.refl _ _ | assumption | refine Below.setCell ?_ (by first | omega | (simp; done) | (simp; omega)) _ | refine Below.alloc ?_ (by first | omega | (simp; done) | (simp; omega)) _ | refine Below.drew ?_ | refine Below.drewN' ?_ _ | refine Below.trans ?_ (Below.mono (by assumption) (by first | omega | (simp; done) | (simp; omega)))))
  go_enter Try.func30, Try.ntmps30
  go_wp2_with fail
  refine (open_any A n c _ ((Bytes.below h hall1).more (by simp; omega)) hnc hc).mono ?_
  rintro e w1 ⟨rfl, hrd, hb⟩
  simp only [World.size_alloc] at hrd hb
  have hres1 := hres.below hb (by omega)
  have hresb1 := hresb.below hb (by omega)
  have hB1 : Below w.heap.size w w1 := hall1.trans (hb.mono (by omega))
  have hlt1 := hrd.lt
  clear hb hres hresb
  go_wp2_with fail
  refine (l92Clock_any _ _ _ _ hrd (by omega)).mono ?_
  rintro e w2 ⟨a, b, c', hbd, rfl, hrd2, ho2⟩
  have hres2 := hres1.only ho2 (by omega)
  have hresb2 := hresb1.only ho2 (by omega)
  have hs2 := ho2.size
  have hB2 : Below w.heap.size w w2 := hB1.trans (ho2.below (by omega) (by omega))
  have hcl := Bk.new w2 40 #[.int .i64 a, .int .i64 b, .int .i64 c']
  have hall2 := fun o => (Below.refl w2.heap.size w2).alloc (Nat.le_refl _) o
  clear ho2 hres1 hresb1 hrd hB1
  go_wp2_with fail
  refine (l92Clock_any _ _ _ _ (hrd2.below (hall2 _)) (by omega)).mono ?_
  rintro e w3 ⟨a', b', c'', hbd', rfl, hrd3, ho3⟩
  have hs3 := ho3.size
  have hres3 := (hres2.below (hall2 _) (by omega)).only ho3 (by omega)
  have hresb3 := (hresb2.below (hall2 _) (by omega)).only ho3 (by omega)
  have hcl3 := hcl.only ho3 (by omega)
  have hB3 : Below w.heap.size w w3 := (hB2.trans ((hall2 _).mono (by omega))).trans (ho3.below (by omega) (by simp; omega))
  simp only [World.size_alloc] at hs3
  have hclb := Bk.new w3 40 #[.int .i64 a', .int .i64 b', .int .i64 c'']
  have hall3 := fun o => (Below.refl w3.heap.size w3).alloc (Nat.le_refl _) o
  have hlt3 := hrd3.lt
  clear ho3 hres2 hresb2 hrd2 hB2 hcl hall2 hall1
  go_wp2_with fail
  have hres4 := (hres3.alloc (.cells #[.int .i64 a', .int .i64 b', .int .i64 c''] 40)).drew
  have hresb4 := (hresb3.alloc (.cells #[.int .i64 a', .int .i64 b', .int .i64 c''] 40)).drew
  have hcl4 := (hcl3.alloc (.cells #[.int .i64 a', .int .i64 b', .int .i64 c''] 40)).drew
  have hclb4 := hclb.drew
  have hrd4 := (hrd3.below (hall3 (.cells #[.int .i64 a', .int .i64 b', .int .i64 c''] 40))).drew
  have hB4 : Below w.heap.size w (w3.alloc (.cells #[.int .i64 a', .int .i64 b', .int .i64 c''] 40)).drew := (by repeat (first | exact Below.refl _ _ | assumption | refine Below.setCell ?_ (by first | omega | (simp; done) | (simp; omega)) _ | refine Below.alloc ?_ (by first | omega | (simp; done) | (simp; omega)) _ | refine Below.drew ?_ | refine Below.drewN' ?_ _ | refine Below.trans ?_ (Below.mono (by assumption) (by first | omega | (simp; done) | (simp; omega)))))
  clear hres3 hresb3 hrd3 hB3 hcl3 hclb hall3 hall0
  generalize w3.alloc (.cells #[.int .i64 a', .int .i64 b', .int .i64 c''] 40) = w4 at *
  have hg5 : w.heap.size + 2 < w2.heap.size := by omega
  have hg6 : w2.heap.size < w3.heap.size := by omega
  generalize w2.heap.size = g5 at *
  generalize w3.heap.size = g6 at *
  have hs4 := hrd4.lt
  have n1 : ¬ w.heap.size = g5 := by omega
  have n2 : ¬ g5 = w.heap.size := by omega
  have n3 : ¬ w.heap.size = g6 := by omega
  have n4 : ¬ g6 = w.heap.size := by omega
  have n5 : ¬ w.heap.size + 1 = g5 := by omega
  have n6 : ¬ g5 = w.heap.size + 1 := by omega
  have n7 : ¬ w.heap.size + 1 = g6 := by omega
  have n8 : ¬ g6 = w.heap.size + 1 := by omega
  have hI : GapI w.heap.size g5 g6 a b c' a' b' c'' w w4.drew 14 := ⟨hrd4, hres4, hresb4, hcl4, hclb4, hB4, by omega⟩
  have c0 := hI.c0
  have c1 := hI.c1
  have c2 := hI.c2
  have k0 := hI.k0
  have k1 := hI.k1
  have k2 := hI.k2
  clear hrd4 hres4 hresb4 hcl4 hclb4 hB4
  go_region_held3 (fun w' => w'.cell? ⟨g5, 0, none⟩ = some (.int .i64 a) ∧ w'.cell? ⟨g5, 1, none⟩ = some (.int .i64 b) ∧ w'.cell? ⟨g5, 2, none⟩ = some (.int .i64 c') ∧ w'.cell? ⟨g6, 0, none⟩ = some (.int .i64 a') ∧ w'.cell? ⟨g6, 1, none⟩ = some (.int .i64 b') ∧ w'.cell? ⟨g6, 2, none⟩ = some (.int .i64 c'')) (first | (with_reducible exact ⟨c0, c1, c2, k0, k1, k2⟩) | go_keep)
    (first | (go_at_call 37; refine (pick_gap hg5 hg6 (by assumption) (by decide) (by decide)).mono ?_; rintro e w5 ⟨r, rfl, hI⟩; have c0 := hI.c0; have c1 := hI.c1; have c2 := hI.c2; have k0 := hI.k0; have k1 := hI.k1; have k2 := hI.k2; have e0 := hI.e0; have e1 := hI.e1; have e2 := hI.e2; have f0 := hI.f0; have f1 := hI.f1; have f2 := hI.f2; have p0 := hI.p0; have p1 := hI.p1; have p2 := hI.p2; have q0 := hI.q0; have q1 := hI.q1; have q2 := hI.q2))
  all_goals
    go_wp2
    have hres5 := ((((((hI.2.1.set_ 0 (.int .i64 a)).set_ 1 (.int .i64 b)).set_ 2 (.int .i64 c')).far (p := ⟨w.heap.size + 1, 0, none⟩) (by simp) (.int .i64 a')).far (p := ⟨w.heap.size + 1, 1, none⟩) (by simp) (.int .i64 b')).far (p := ⟨w.heap.size + 1, 2, none⟩) (by simp) (.int .i64 c''))
    have hres6 := (((((hI.2.2.1.far (p := ⟨w.heap.size, 0, none⟩) (by simp) (.int .i64 a)).far (p := ⟨w.heap.size, 1, none⟩) (by simp) (.int .i64 b)).far (p := ⟨w.heap.size, 2, none⟩) (by simp) (.int .i64 c')).set_ 0 (.int .i64 a')).set_ 1 (.int .i64 b')).set_ 2 (.int .i64 c'')
    have s0 := hres5.cell 0
    have s1 := hres5.cell 1
    have s2 := hres5.cell 2
    have t0 := hres6.cell 0
    have t1 := hres6.cell 1
    have t2 := hres6.cell 2
    simp at s0 s1 s2 t0 t1 t2
    have hB4 := hI.2.2.2.2.2.1
    refine ⟨rfl, ?_⟩
    apply Exists.intro
    apply And.intro
    · simp [results, Try.results30, go_sem, s0, s1, s2, t0, t1, t2]; exact rfl
    · exact ⟨a, b, c', _, a', b', c'', _, rfl, (by repeat (first | exact Below.refl _ _ | assumption | refine Below.setCell ?_ (by first | omega | (simp; done) | (simp; omega)) _ | refine Below.alloc ?_ (by first | omega | (simp; done) | (simp; omega)) _ | refine Below.drew ?_ | refine Below.drewN' ?_ _ | refine Below.trans ?_ (Below.mono (by assumption) (by first | omega | (simp; done) | (simp; omega)))))⟩
end Go.Proofs.Ytambjhapnhmmmaa
