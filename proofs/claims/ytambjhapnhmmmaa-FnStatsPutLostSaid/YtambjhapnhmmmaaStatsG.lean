/-
  Stats: the draw for StatsPut; StatsLost.
  Conditions: the code's memory.
-/
import Derived.Laws.StructEq
import Derived.Test.YtambjhapnhmmmaaRows
import Derived.Test.YtambjhapnhmmmaaLib
import Derived.Test.YtambjhapnhmmmaaDraw
import Derived.Test.YtambjhapnhmmmaaInv
import Derived.Test.YtambjhapnhmmmaaSlots
import Derived.Test.YtambjhapnhmmmaaStats
import Derived.Test.YtambjhapnhmmmaaStatsB
import Derived.Test.YtambjhapnhmmmaaStatsC
import Derived.Test.YtambjhapnhmmmaaStatsD
import Derived.Test.YtambjhapnhmmmaaStatsE
import Derived.Test.YtambjhapnhmmmaaStatsF
namespace Go.Proofs.Ytambjhapnhmmmaa
open Go.RowKit
set_option linter.unusedVariables false
set_option linter.unusedSimpArgs false

/-- What the slots hold of the region that draws the number. -/
def ID (N g gs : Nat) : Nat → Value → World → Prop
  | 0, v, _ => v = .pointer (some ⟨gs, 1, none⟩)
  | 1, v, _ => VAny v
  | 2, v, _ => VPtr g 0 v
  | 3, v, _ => VAny v
  | 4, v, _ => VAny v
  | 5, v, _ => VAny v
  | 6, v, _ => VAny v
  | _, _, _ => True
theorem ID.mono {N g gs : Nat} (j : Nat) (v : Value) (w w' : World) (ho : Steady N g w w') (h : ID N g gs j v w) : ID N g gs j v w' := by
  unfold ID at *
  split at h <;> exact h

def PutDrawn (w : World) (x : Ending) (w' : World) : Prop :=
  ∃ (a b c d e wd t cm : Int), x = .returned (.tuple #[.agg #[.int .i64 a, .int .i64 b, .int .i64 c, .int .i64 d, .int .i64 e], .int .i64 wd, .int .i64 t, .int .i64 cm]) ∧ Below w.heap.size w w'

set_option maxHeartbeats 4000000 in
theorem draw_put (A : Option Addr) (n c : Nat) (w : World) (h : Bytes w w.heap.size A n) (hnc : n ≤ c) (hc : c ≤ maxLen) :
    Calls Try.prog 33 #[.slice A n c] w (PutDrawn w) := by
  have hres := Bk.new w 31 #[.int .i64 0, .int .i64 0, .int .i64 0, .int .i64 0, .int .i64 0]
  have hall0 := fun o => (Below.refl w.heap.size w).alloc (Nat.le_refl _) o
  go_enter Try.func33, Try.ntmps33
  go_wp2_with fail
  refine (open_any A n c _ ((Bytes.below h (hall0 _)).more (by simp)) hnc hc).mono ?_
  rintro e w1 ⟨rfl, hrd, hb⟩
  simp only [World.size_alloc] at hrd hb
  replace hres := hres.below hb (by omega)
  have hB : Below w.heap.size w w1 := (hall0 _).trans (hb.mono (by omega))
  clear hb hall0 h
  have hl1 := hrd.lt
  go_wp2_with fail
  refine (l92Stats_any _ _ _ _ hrd (by omega)).mono ?_
  rintro x w2 ⟨v, ⟨sa, sb, sc, sd, se, rfl⟩, rfl, hrd2, ho2⟩
  replace hB := hB.trans (ho2.below (by omega) hB.size)
  replace hres := hres.only ho2 (by first | omega | (simp; done) | (simp; omega))
  have hs2 := ho2.size
  clear ho2 hrd
  have hS := Bk.new w2 31 #[.int .i64 sa, .int .i64 sb, .int .i64 sc, .int .i64 sd, .int .i64 se]
  have hall2 := fun o => (Below.refl w2.heap.size w2).alloc (Nat.le_refl _) o
  go_wp2_with fail
  refine (l92Three_any _ _ _ _ (hrd2.below (hall2 _)) (by omega)).mono ?_
  rintro x w3 ⟨a, b, c, rfl, hrd3, ho3⟩
  replace hB := (hB.trans ((hall2 _).mono (by omega))).trans (ho3.below (by omega) (by simp; omega))
  replace hres := (hres.below (hall2 _) hres.lt).only ho3 (by omega)
  replace hS := hS.only ho3 (by first | omega | (simp; done) | (simp; omega))
  have hgs : w.heap.size + 1 < w2.heap.size := by have := hrd2.lt; omega
  clear ho3 hrd2 hall2
  generalize w2.heap.size = gs at *
  go_wp2_with fail
  go_wp2_with fail
  refine (pick_any _ _ _ _ _ hrd3 (by omega) (by omega)).mono ?_
  rintro e w_p ⟨p, rfl, p_0, p_1, hrd_p, ho_p, hsz_p⟩
  have p_u := p_1 (by omega)
  have hlt_p := hrd_p.lt
  clear p_1
  replace hB := hB.trans (ho_p.below (by omega) hB.size)
  replace hS := hS.only ho_p (by first | omega | (simp; done) | (simp; omega))
  replace hres := hres.only ho_p (by first | omega | (simp; done) | (simp; omega))
  have hSl := hS.lt
  have hrl := hres.lt
  have hBs := hB.size
  clear ho_p hsz_p hrd3
  by_cases hp : 0 < p
  · have e0 : decide (0 < p) = true := by simpa using hp
    go_wp2_with fail
    refine wp_region_inv (fun m w' => Rd w' (w.heap.size + 1) (w.heap.size + 1) (0 + 300 + 14 + 1 + m) ∧ Steady w_p.heap.size (w.heap.size + 1) w_p w') (Steady w_p.heap.size (w.heap.size + 1)) (ID w_p.heap.size (w.heap.size + 1) gs) (by kernel_rfl) (by kernel_rfl) (by kernel_rfl) ⟨Rd.drew hrd_p, Steady.drew (Steady.refl _ _ _)⟩ ID.mono ⟨?_, ?_, ?_, ?_, ?_, ?_, ?_, trivial⟩ ?_
    · intro n x wv hn ⟨hcr, hco⟩ hd
      have HO := Lib.hid hco
      clear hco
      replace hn : n < 7 := hn
      have hlv := hcr.lt
      have hsv := HO.out.size
      clear hd
      refine ⟨?_⟩
      simp only [fill, Act.put, List.setIfInBounds_toArray, List.set_cons_zero, List.set_cons_succ]
      go_simp
      exact ⟨Steady.refl _ _ _, ⟨hcr.more (by omega), HO.out⟩, rfl⟩
    · intro n x wv hn ⟨hcr, hco⟩ hd
      have HO := Lib.hid hco
      clear hco
      replace hn : n < 7 := hn
      have hlv := hcr.lt
      have hsv := HO.out.size
      simp [ID, Region.binds] at hd
      have hx := hd
      have hs := hS.steady HO.out (by omega) (by omega)
      (try clear hs_c0); (try clear hs_f0)
      (try clear hs_c1); (try clear hs_f1)
      (try clear hs_c2); (try clear hs_f2)
      (try clear hs_c3); (try clear hs_f3)
      (try clear hs_c4); (try clear hs_f4)
      (try clear hs_lt)
      have hs_lt := hs.lt; (try simp only [World.size_alloc] at hs_lt)
      have hs_c0 := hs.cell 0; have hs_f0 := hs.frozen 0
      have hs_c1 := hs.cell 1; have hs_f1 := hs.frozen 1
      have hs_c2 := hs.cell 2; have hs_f2 := hs.frozen 2
      have hs_c3 := hs.cell 3; have hs_f3 := hs.frozen 3
      have hs_c4 := hs.cell 4; have hs_f4 := hs.frozen 4
      simp only [List.getElem?_toArray, List.getElem?_cons_zero, List.getElem?_cons_succ] at hs_c0 hs_c1 hs_c2 hs_c3 hs_c4
      refine ⟨?_⟩
      simp only [fill, Act.put, List.setIfInBounds_toArray, List.set_cons_zero, List.set_cons_succ]
      go_simp
      exact ⟨Steady.refl _ _ _, ⟨hcr.more (by omega), HO.out⟩, ⟨_, rfl⟩⟩
    · intro n x wv hn ⟨hcr, hco⟩ hd
      have HO := Lib.hid hco
      clear hco
      replace hn : n < 7 := hn
      have hlv := hcr.lt
      have hsv := HO.out.size
      clear hd
      refine ⟨?_⟩
      simp only [fill, Act.put, List.setIfInBounds_toArray, List.set_cons_zero, List.set_cons_succ]
      go_simp
      exact ⟨Steady.refl _ _ _, ⟨hcr.more (by omega), HO.out⟩, rfl⟩
    · intro n x wv hn ⟨hcr, hco⟩ hd
      have HO := Lib.hid hco
      clear hco
      replace hn : n < 7 := hn
      have hlv := hcr.lt
      have hsv := HO.out.size
      simp [ID, Region.binds] at hd
      have hx := hd
      replace hx : x 2 = .pointer (some ⟨w.heap.size + 1, 0, none⟩) := hx
      refine ⟨?_⟩
      simp only [fill, Act.put, List.setIfInBounds_toArray, List.set_cons_zero, List.set_cons_succ]
      go_simp
      refine (pick_any _ _ _ _ _ hcr (by omega) (by omega)).mono ?_
      rintro e w2 ⟨r, rfl, r0, r1, hrd2, ho2, _⟩
      have hst := Steady.of_only (N := w_p.heap.size) ho2 (by omega) hsv
      exact ⟨hst, ⟨hrd2.more (by omega), HO.out.trans hst⟩, r, rfl⟩
    · intro n x wv hn ⟨hcr, hco⟩ hd
      have HO := Lib.hid hco
      clear hco
      replace hn : n < 7 := hn
      have hlv := hcr.lt
      have hsv := HO.out.size
      simp [ID, Region.binds] at hd
      obtain ⟨⟨r, hx⟩, s, hy⟩ := hd
      refine ⟨?_⟩
      simp only [fill, Act.put, List.setIfInBounds_toArray, List.set_cons_zero, List.set_cons_succ]
      go_simp
      exact ⟨Steady.refl _ _ _, ⟨hcr.more (by omega), HO.out⟩, ⟨_, rfl⟩⟩
    · intro n x wv hn ⟨hcr, hco⟩ hd
      have HO := Lib.hid hco
      clear hco
      replace hn : n < 7 := hn
      have hlv := hcr.lt
      have hsv := HO.out.size
      simp [ID, Region.binds] at hd
      obtain ⟨r, hx⟩ := hd
      refine ⟨?_⟩
      simp only [fill, Act.put, List.setIfInBounds_toArray, List.set_cons_zero, List.set_cons_succ]
      go_simp
      exact ⟨Steady.refl _ _ _, ⟨hcr.more (by omega), HO.out⟩, ⟨_, rfl⟩⟩
    · intro n x wv hn ⟨hcr, hco⟩ hd
      have HO := Lib.hid hco
      clear hco
      replace hn : n < 7 := hn
      have hlv := hcr.lt
      have hsv := HO.out.size
      simp [ID, Region.binds] at hd
      obtain ⟨⟨r, hx⟩, _⟩ := hd
      refine ⟨?_⟩
      simp only [fill, Act.put, List.setIfInBounds_toArray, List.set_cons_zero, List.set_cons_succ]
      go_simp
      exact ⟨Steady.refl _ _ _, ⟨hcr.more (by omega), HO.out⟩, ⟨_, rfl⟩⟩
    · intro x wv ⟨hcr, hco⟩ hI
      obtain ⟨r, hx6⟩ := hI 6 (by decide)
      clear hI
      replace hS := hS.steady hco (by omega) (by omega)
      replace hres := hres.steady hco (by omega) (by omega)
      replace hB := hB.trans ((hco.only (Nat.le_refl _)).below (by omega) hB.size)
      clear hco
      (try clear hS_c0); (try clear hS_f0)
      (try clear hS_c1); (try clear hS_f1)
      (try clear hS_c2); (try clear hS_f2)
      (try clear hS_c3); (try clear hS_f3)
      (try clear hS_c4); (try clear hS_f4)
      (try clear hS_lt)
      have hS_lt := hS.lt; (try simp only [World.size_alloc] at hS_lt)
      have hS_c0 := hS.cell 0; have hS_f0 := hS.frozen 0
      have hS_c1 := hS.cell 1; have hS_f1 := hS.frozen 1
      have hS_c2 := hS.cell 2; have hS_f2 := hS.frozen 2
      have hS_c3 := hS.cell 3; have hS_f3 := hS.frozen 3
      have hS_c4 := hS.cell 4; have hS_f4 := hS.frozen 4
      simp only [List.getElem?_toArray, List.getElem?_cons_zero, List.getElem?_cons_succ] at hS_c0 hS_c1 hS_c2 hS_c3 hS_c4
      (try clear hres_c0); (try clear hres_f0)
      (try clear hres_c1); (try clear hres_f1)
      (try clear hres_c2); (try clear hres_f2)
      (try clear hres_c3); (try clear hres_f3)
      (try clear hres_c4); (try clear hres_f4)
      (try clear hres_lt)
      have hres_lt := hres.lt; (try simp only [World.size_alloc] at hres_lt)
      have hres_c0 := hres.cell 0; have hres_f0 := hres.frozen 0
      have hres_c1 := hres.cell 1; have hres_f1 := hres.frozen 1
      have hres_c2 := hres.cell 2; have hres_f2 := hres.frozen 2
      have hres_c3 := hres.cell 3; have hres_f3 := hres.frozen 3
      have hres_c4 := hres.cell 4; have hres_f4 := hres.frozen 4
      simp only [List.getElem?_toArray, List.getElem?_cons_zero, List.getElem?_cons_succ] at hres_c0 hres_c1 hres_c2 hres_c3 hres_c4
      refine ⟨?_⟩
      simp only [fill, Act.put, List.setIfInBounds_toArray, List.set_cons_zero, List.set_cons_succ, hx6]
      go_wp2
      refine ⟨rfl, ?_⟩
      apply Exists.intro
      apply And.intro
      · simp [results, Try.results33, go_sem, hres_c0, hres_c1, hres_c2, hres_c3, hres_c4, hS_c0, hS_c1, hS_c2, hS_c3, hS_c4, hres_lt, hS_lt]; exact rfl
      · exact ⟨_, _, _, _, _, _, _, _, rfl, (by repeat (first | exact Below.refl _ _ | assumption | refine Below.setCell ?_ (by first | omega | (simp; done) | (simp; omega)) _ | refine Below.alloc ?_ (by first | omega | (simp; done) | (simp; omega)) _ | refine Below.drew ?_ | refine Below.drewN' ?_ _ | refine Below.trans ?_ (Below.mono (by assumption) (by first | omega | (simp; done) | (simp; omega)))))⟩
  · have e0 : decide (0 < p) = false := by simpa using hp
    (try clear hS_c0); (try clear hS_f0)
    (try clear hS_c1); (try clear hS_f1)
    (try clear hS_c2); (try clear hS_f2)
    (try clear hS_c3); (try clear hS_f3)
    (try clear hS_c4); (try clear hS_f4)
    (try clear hS_lt)
    have hS_lt := hS.lt; (try simp only [World.size_alloc] at hS_lt)
    have hS_c0 := hS.cell 0; have hS_f0 := hS.frozen 0
    have hS_c1 := hS.cell 1; have hS_f1 := hS.frozen 1
    have hS_c2 := hS.cell 2; have hS_f2 := hS.frozen 2
    have hS_c3 := hS.cell 3; have hS_f3 := hS.frozen 3
    have hS_c4 := hS.cell 4; have hS_f4 := hS.frozen 4
    simp only [List.getElem?_toArray, List.getElem?_cons_zero, List.getElem?_cons_succ] at hS_c0 hS_c1 hS_c2 hS_c3 hS_c4
    (try clear hres_c0); (try clear hres_f0)
    (try clear hres_c1); (try clear hres_f1)
    (try clear hres_c2); (try clear hres_f2)
    (try clear hres_c3); (try clear hres_f3)
    (try clear hres_c4); (try clear hres_f4)
    (try clear hres_lt)
    have hres_lt := hres.lt; (try simp only [World.size_alloc] at hres_lt)
    have hres_c0 := hres.cell 0; have hres_f0 := hres.frozen 0
    have hres_c1 := hres.cell 1; have hres_f1 := hres.frozen 1
    have hres_c2 := hres.cell 2; have hres_f2 := hres.frozen 2
    have hres_c3 := hres.cell 3; have hres_f3 := hres.frozen 3
    have hres_c4 := hres.cell 4; have hres_f4 := hres.frozen 4
    simp only [List.getElem?_toArray, List.getElem?_cons_zero, List.getElem?_cons_succ] at hres_c0 hres_c1 hres_c2 hres_c3 hres_c4
    go_wp2
    refine ⟨rfl, ?_⟩
    apply Exists.intro
    apply And.intro
    · simp [results, Try.results33, go_sem, hres_c0, hres_c1, hres_c2, hres_c3, hres_c4, hS_c0, hS_c1, hS_c2, hS_c3, hS_c4, hres_lt, hS_lt]; exact rfl
    · exact ⟨_, _, _, _, _, _, _, _, rfl, (by repeat (first | exact Below.refl _ _ | assumption | refine Below.setCell ?_ (by first | omega | (simp; done) | (simp; omega)) _ | refine Below.alloc ?_ (by first | omega | (simp; done) | (simp; omega)) _ | refine Below.drew ?_ | refine Below.drewN' ?_ _ | refine Below.trans ?_ (Below.mono (by assumption) (by first | omega | (simp; done) | (simp; omega)))))⟩

def lostV (a b c : Int) : Int := b - a + 1 - c
set_option maxHeartbeats 1000000 in
theorem ilost_ok (a b c d e : Int) (w : World) (h : StOk a b c d e) :
    Calls Try.prog 35 #[.agg #[.int .i64 a, .int .i64 b, .int .i64 c, .int .i64 d, .int .i64 e]] w fun x w' => x = .returned (.int .i64 (b - a + 1 - c)) ∧ Below w.heap.size w w' := by
  obtain ⟨a1, a2, a3, a4, a5, a6, a7, a8, a9, a10, a11⟩ := id h
  have q1 : stB a b c d e = true := decide_eq_true h
  have hv := fun w => istv_any a b c d e w
  rw [q1] at hv
  clear h q1
  go_enter Try.func35, Try.ntmps35
  go_wp2_with (first | (go_at_call 34; refine (hv _).mono ?_; rintro e w1 ⟨rfl, hb1⟩; obtain ⟨k1, f1⟩ := bcell hb1; have s1 := hb1.size; (try simp only [World.size_alloc] at k1 f1 s1); (try have le1 : w.heap.size ≤ w1.heap.size := by omega); (try have lt1 : w.heap.size < w1.heap.size := by omega); (try have lt2 : w.heap.size + 1 < w1.heap.size := by omega); (try have le2 : w.heap.size + 1 ≤ w1.heap.size := by omega)))
  go_ret
  exact ⟨rfl, (by repeat (first | exact Below.refl _ _ | assumption | refine Below.setCell ?_ (by first | omega | (simp; done) | (simp; omega)) _ | refine Below.alloc ?_ (by first | omega | (simp; done) | (simp; omega)) _ | refine Below.drew ?_ | refine Below.drewN' ?_ _ | refine Below.trans ?_ (Below.mono (by assumption) (by first | omega | (simp; done) | (simp; omega)))))⟩
end Go.Proofs.Ytambjhapnhmmmaa
