/-
  PacerPut of the reference.
  Conditions: as each theorem states them.
-/
import Derived.Test.YtilokgloocbbnaaRows
import Derived.Test.YtilokgloocbbnaaLib
import Derived.Test.YtilokgloocbbnaaOwn
import Derived.Test.YtilokgloocbbnaaDraw
import Derived.Test.YtilokgloocbbnaaInv
import Derived.Test.YtilokgloocbbnaaSlots
import Derived.Test.YtilokgloocbbnaaApp
import Derived.Test.YtilokgloocbbnaaPac
import Derived.Outline
namespace Go.Proofs.Ytilokgloocbbnaa
open Go.RowKit
set_option linter.unusedVariables false
set_option linter.unusedSimpArgs false

/-- k is the number of the first packets that are of class c or less. -/
def Lead (xs : List Wt) (c : Int) (k : Nat) : Prop := k ≤ xs.length ∧ (∀ j x, j < k → xs[j]? = some x → x.cl ≤ c) ∧ ∀ x, xs[k]? = some x → c < x.cl
def LeadTo (xs : List Wt) (c : Int) (k : Nat) : Prop := k ≤ xs.length ∧ ∀ j x, j < k → xs[j]? = some x → x.cl ≤ c
theorem LeadTo.succ {xs : List Wt} {c : Int} {k : Nat} {x : Wt} (h : LeadTo xs c k) (hx : xs[k]? = some x) (hc : x.cl ≤ c) : LeadTo xs c (k + 1) := by
  refine ⟨(List.getElem?_eq_some_iff.1 hx).1, fun j y hj hy => ?_⟩
  by_cases e : j = k
  · subst e; rw [hx] at hy; injection hy with hy; subst hy; exact hc
  · exact h.2 j y (by omega) hy
theorem Lead.uniq {xs : List Wt} {c : Int} {k k' : Nat} (h : Lead xs c k) (h' : Lead xs c k') : k = k' := by
  rcases Nat.lt_trichotomy k k' with hlt | rfl | hlt
  · have hk : k < xs.length := by have := h'.1; omega
    have a := h.2.2 _ (List.getElem?_eq_getElem hk)
    have b := h'.2.1 k _ hlt (List.getElem?_eq_getElem hk)
    omega
  · rfl
  · have hk : k' < xs.length := by have := h.1; omega
    have a := h'.2.2 _ (List.getElem?_eq_getElem hk)
    have b := h.2.1 k' _ hlt (List.getElem?_eq_getElem hk)
    omega
/-- The packets behind a put. -/
def putAt (xs : List Wt) (k : Nat) (x : Wt) : List Wt := xs.take k ++ x :: xs.drop k
theorem putAt_len {xs : List Wt} {k : Nat} {x : Wt} (hk : k ≤ xs.length) : (putAt xs k x).length = xs.length + 1 := by
  unfold putAt; simp; omega

theorem wt_info : (Try.prog.info? 27).map (fun i => (i.zero, i.size, i.bytes)) = some (some (.agg #[.int .i64 0, .int .i64 0, .int .i64 0]), 3, 24) := by kernel_rfl

def putBad (w : World) (y : Ending) (w' : World) : Prop := y = .returned (.tuple #[.agg #[.int .i64 0, .int .i64 0, .slice none 0 0], .bool false]) ∧ Below w.heap.size w w'
/-- A pacer comes back whose packets lie in memory of the call's own. -/
def putGood (ea cr : Int) (ys : List Wt) (w : World) (y : Ending) (w' : World) : Prop :=
  ∃ v, y = .returned (.tuple #[.agg #[.int .i64 ea, .int .i64 cr, v], .bool true]) ∧ w'.ownsRow w.heap.size 27 3 v ys.length (ys.flatMap Wt.c) ∧ Below w.heap.size w w'
/-- Does the put succeed? -/
def PutIn (ea cr : Int) (xs : List Wt) (x : Wt) : Prop := pOk ea cr xs ∧ wOk x ∧ xs.length ≠ 12

theorem Only.grown_own {g : Nat} {a w w' : World} {base size n : Nat} {e : TypeId} {v : Value} {xs : List Value} (h : Only g a w) (hg : w.grownBy w' v.ownBlock) (hown : w.ownsRow base e size v n xs) (hs : a.heap.size ≤ base) : Only g a w' :=
  ⟨hg.os.trans h.os, hg.tape.trans h.tape, hg.output.trans h.output, Nat.le_trans h.size hg.size, fun k hk hn => (hg.block k (Nat.lt_of_lt_of_le hk h.size) (fun he => by have := (hown.lt k he.symm).1; omega)).trans (h.block k hk hn)⟩
theorem flat_take (xs : List Wt) (k : Nat) : (xs.flatMap Wt.c).take (k * 3) = (xs.take k).flatMap Wt.c := by
  induction xs generalizing k with
  | nil => simp
  | cons x xs ih =>
    cases k with
    | zero => simp
    | succ k =>
      rw [List.flatMap_cons, List.take_succ_cons, List.flatMap_cons, List.take_append]
      have h1 : x.c.length = 3 := rfl
      rw [h1, show (k + 1) * 3 - 3 = k * 3 by omega, ih, List.take_of_length_le (by rw [h1]; omega)]
theorem flat_drop (xs : List Wt) (k : Nat) : (xs.flatMap Wt.c).drop (k * 3) = (xs.drop k).flatMap Wt.c := by
  induction xs generalizing k with
  | nil => simp
  | cons x xs ih =>
    cases k with
    | zero => simp
    | succ k =>
      rw [List.flatMap_cons, List.drop_succ_cons, List.drop_append]
      have h1 : x.c.length = 3 := rfl
      rw [h1, show (k + 1) * 3 - 3 = k * 3 by omega, ih, List.drop_of_length_le (by rw [h1]; omega), List.nil_append]
theorem one_wt (x : Wt) : ∀ u ∈ x.c, u.oneCell' = true := by
  intro u hu
  simp [Wt.c] at hu
  rcases hu with rfl | rfl | rfl <;> rfl
theorem one_wts (xs : List Wt) : ∀ u ∈ xs.flatMap Wt.c, u.oneCell' = true := by
  intro u hu
  obtain ⟨x, _, hx⟩ := List.mem_flatMap.1 hu
  exact one_wt x u hx

/-- What the slots hold of the region that appends the first packets and the new one. -/
def I6 (T N bP : Nat) (A : Option Addr) (n c k : Nat) (xs : List Wt) (x : Wt) : Nat → Value → World → Prop
  | 0, v, w => ∃ g, N ≤ g ∧ v = .slice (some ⟨g, 0, none⟩) 0 0 ∧ Bk w g T #[]
  | 1, v, _ => v = .pointer (some ⟨bP, 2, none⟩)
  | 2, v, _ => v = .slice A n c
  | 3, v, _ => v = .int .i64 k
  | 4, v, _ => v = .slice A k c
  | 5, v, w => w.ownsRow N T 3 v k ((xs.take k).flatMap Wt.c)
  | 6, v, _ => v = .agg #[.int .i64 x.id, .int .i64 x.cl, .int .i64 x.sz]
  | 7, v, w => ∃ g, N ≤ g ∧ v = .slice (some ⟨g, 0, none⟩) 1 1 ∧ Bk w g T #[.int .i64 x.id, .int .i64 x.cl, .int .i64 x.sz]
  | 8, v, w => w.ownsRow N T 3 v (k + 1) ((xs.take k).flatMap Wt.c ++ x.c)
  | 9, v, w => w.ownsRow N T 3 v (k + 1) ((xs.take k).flatMap Wt.c ++ x.c)
  | _, _, _ => True
def S6 : Nat → List Nat
  | 0 => [5, 8]
  | 5 => [8]
  | 7 => [8]
  | _ => []
def T6 : Nat → List Nat
  | 8 => [5]
  | 9 => [8, 5]
  | _ => []
def R6 (T : Nat) : Nat → World → World → Prop
  | 5, w, w' => ∃ g, w.grownBy w' (some g) ∧ Bk w g T #[]
  | 8, _, _ => True
  | _, w, w' => Below w.heap.size w w'
/-- What the slots hold of the region that appends the last packets and stores the result. -/
def I7 (T TP N bP gR : Nat) (A : Option Addr) (n c k : Nat) (xs : List Wt) (x : Wt) (ea cr : Int) (v7 : Value) : Nat → Value → World → Prop
  | 0, v, _ => v = .pointer (some ⟨bP, 0, none⟩)
  | 1, v, _ => v = .int .i64 ea
  | 2, v, _ => v = .pointer (some ⟨bP, 1, none⟩)
  | 3, v, _ => v = .int .i64 cr
  | 4, v, w => v = v7 ∧ w.ownsRow N T 3 v7 (k + 1) ((xs.take k).flatMap Wt.c ++ x.c)
  | 5, v, _ => v = .pointer (some ⟨bP, 2, none⟩)
  | 6, v, _ => v = .slice A n c
  | 7, v, _ => v = .int .i64 k
  | 8, v, _ => v = .slice (if c = k then A else A.map (·.add (k * 3))) (n - k) (c - k)
  | 9, v, w => w.ownsRow N T 3 v (k + 1 + (n - k)) ((xs.take k).flatMap Wt.c ++ x.c ++ (xs.drop k).flatMap Wt.c)
  | 10, v, w => ∃ u, v = .agg #[.int .i64 ea, .int .i64 cr, u] ∧ w.ownsRow N T 3 u (k + 1 + (n - k)) ((xs.take k).flatMap Wt.c ++ x.c ++ (xs.drop k).flatMap Wt.c)
  | 11, _, w => ∃ u, Bk w gR TP #[.int .i64 ea, .int .i64 cr, u] ∧ w.ownsRow N T 3 u (k + 1 + (n - k)) ((xs.take k).flatMap Wt.c ++ x.c ++ (xs.drop k).flatMap Wt.c)
  | 12, v, _ => v = .bool true
  | _, _, _ => True
def S7 : Nat → List Nat
  | 4 => [9]
  | _ => []
def T7 : Nat → List Nat
  | 9 => [4]
  | 10 => [9]
  | 11 => [9, 10]
  | _ => []
def R7 (gR : Nat) : Nat → World → World → Prop
  | 9, _, _ => True
  | 11, w, w' => Only gR w w'
  | _, w, w' => Below w.heap.size w w'
theorem R7_only {gR i : Nat} {w w' : World} (h9 : i ≠ 9) (h : R7 gR i w w') : Only gR w w' := by
  unfold R7 at h
  split at h
  · exact absurd rfl h9
  · exact h
  · exact Only.of_below h
theorem R7_below {gR i : Nat} {w w' : World} (h9 : i ≠ 9) (h11 : i ≠ 11) (h : R7 gR i w w') : Below w.heap.size w w' := by
  unfold R7 at h
  split at h
  · exact absurd rfl h9
  · exact absurd rfl h11
  · exact h
theorem R6_below {T i : Nat} {w w' : World} (h5 : i ≠ 5) (h8 : i ≠ 8) (h : R6 T i w w') : Below w.heap.size w w' := by
  unfold R6 at h
  split at h
  · exact absurd rfl h5
  · exact absurd rfl h8
  · exact h
theorem I6.mono {T N bP : Nat} {A : Option Addr} {n c k : Nat} {xs : List Wt} {x : Wt} (i j : Nat) (v : Value) (w w' : World) (hij : i ≠ j) (hs : i ∉ S6 j) (ht : i ∉ T6 j) (hR : R6 T i w w') (h : I6 T N bP A n c k xs x j v w) : I6 T N bP A n c k xs x j v w' := by
  unfold I6 at *
  split at h
  · obtain ⟨g, h1, h2, h3⟩ := h
    have hb := R6_below (by rintro rfl; simp [S6] at hs) (by rintro rfl; simp [S6] at hs) hR
    exact ⟨g, h1, h2, h3.below hb h3.lt⟩
  · exact h
  · exact h
  · exact h
  · exact h
  · exact own_below h (R6_below hij (by rintro rfl; simp [S6] at hs) hR)
  · exact h
  · obtain ⟨g, h1, h2, h3⟩ := h
    refine ⟨g, h1, h2, ?_⟩
    by_cases h5 : i = 5
    · subst h5
      obtain ⟨g', hg, hk⟩ := hR
      refine h3.grown hg fun he => ?_
      injection he with he
      subst he
      unfold Bk at h3 hk
      rw [h3] at hk
      injection hk with hk
      injection hk with hk
      cases hk
    · exact h3.below (R6_below h5 (by rintro rfl; simp [S6] at hs) hR) h3.lt
  · exact own_below h (R6_below (by rintro rfl; simp [T6] at ht) hij hR)
  · exact own_below h (R6_below (by rintro rfl; simp [T6] at ht) (by rintro rfl; simp [T6] at ht) hR)
  · trivial
theorem I7.mono {T TP N bP gR : Nat} {A : Option Addr} {n c k : Nat} {xs : List Wt} {x : Wt} {ea cr : Int} {v7 : Value} (i j : Nat) (v : Value) (w w' : World) (hij : i ≠ j) (hs : i ∉ S7 j) (ht : i ∉ T7 j) (hR : R7 gR i w w') (hg : gR < N) (h : I7 T TP N bP gR A n c k xs x ea cr v7 j v w) : I7 T TP N bP gR A n c k xs x ea cr v7 j v w' := by
  unfold I7 at *
  split at h
  · exact h
  · exact h
  · exact h
  · exact h
  · exact ⟨h.1, own_only h.2 (R7_only (by rintro rfl; simp [S7] at hs) hR) hg⟩
  · exact h
  · exact h
  · exact h
  · exact h
  · exact own_only h (R7_only hij hR) hg
  · obtain ⟨u, h1, h2⟩ := h
    exact ⟨u, h1, own_only h2 (R7_only (by rintro rfl; simp [T7] at ht) hR) hg⟩
  · obtain ⟨u, h1, h2⟩ := h
    have hb := R7_below (by rintro rfl; simp [T7] at ht) hij hR
    exact ⟨u, h1.below hb h1.lt, own_below h2 hb⟩
  · exact h
  · trivial

set_option maxHeartbeats 4000000 in
theorem sput_bad (ea cr : Int) (A : Option Addr) (n c : Nat) (xs : List Wt) (x : Wt) (w : World) (h : Wts w w.heap.size A n xs) (hn : n ≤ 1099511627776) (hno : ¬ PutIn ea cr xs x) :
    Calls Try.prog 15 #[.agg #[.int .i64 ea, .int .i64 cr, .slice A n c], .agg #[.int .i64 x.id, .int .i64 x.cl, .int .i64 x.sz]] w (putBad w) := by
  have HL := Lib.hid h.len
  have hP := ((Bk.new w 25 #[.int .i64 ea, .int .i64 cr, .slice A n c]).alloc (.cells #[.int .i64 x.id, .int .i64 x.cl, .int .i64 x.sz] 27)).alloc (.cells #[.int .i64 0, .int .i64 0, .slice none 0 0] 25)
  have hX := (Bk.new (w.alloc (.cells #[.int .i64 ea, .int .i64 cr, .slice A n c] 25)) 27 #[.int .i64 x.id, .int .i64 x.cl, .int .i64 x.sz]).alloc (.cells #[.int .i64 0, .int .i64 0, .slice none 0 0] 25)
  have hR := Bk.new ((w.alloc (.cells #[.int .i64 ea, .int .i64 cr, .slice A n c] 25)).alloc (.cells #[.int .i64 x.id, .int .i64 x.cl, .int .i64 x.sz] 27)) 25 #[.int .i64 0, .int .i64 0, .slice none 0 0]
  simp only [World.size_alloc] at hX hR
  have hv := fun w h => spv_any ea cr A n c xs w h hn
  have hx := fun w => l22w_any x w
  cases q1 : pB ea cr xs
  · rw [q1] at hv
    clear hno hx
    have HV := Lib.hid hv
    clear hv
    go_enter Try.func15, Try.ntmps15
    go_wp2_with fail
    refine (HV.out _ ?_).mono ?_
    · exact (Sl.alloc (Sl.alloc (Sl.alloc h (Nat.le_refl _) _) (by simp) _) (by simp; omega) _).more (by simp; omega)
    rintro y w1 ⟨rfl, hb1⟩
    replace hP := hP.below hb1 (by first | omega | exact hP.lt | (simp; done) | (simp; omega))
    (try clear hP_c0); (try clear hP_f0)
    (try clear hP_c1); (try clear hP_f1)
    (try clear hP_c2); (try clear hP_f2)
    (try clear hP_lt)
    have hP_lt := hP.lt; (try simp only [World.size_alloc] at hP_lt)
    have hP_c0 := hP.cell 0; have hP_f0 := hP.frozen 0
    have hP_c1 := hP.cell 1; have hP_f1 := hP.frozen 1
    have hP_c2 := hP.cell 2; have hP_f2 := hP.frozen 2
    simp only [List.getElem?_toArray, List.getElem?_cons_zero, List.getElem?_cons_succ] at hP_c0 hP_c1 hP_c2
    replace hX := hX.below hb1 (by first | omega | exact hX.lt | (simp; done) | (simp; omega))
    (try clear hX_c0); (try clear hX_f0)
    (try clear hX_c1); (try clear hX_f1)
    (try clear hX_c2); (try clear hX_f2)
    (try clear hX_lt)
    have hX_lt := hX.lt; (try simp only [World.size_alloc] at hX_lt)
    have hX_c0 := hX.cell 0; have hX_f0 := hX.frozen 0
    have hX_c1 := hX.cell 1; have hX_f1 := hX.frozen 1
    have hX_c2 := hX.cell 2; have hX_f2 := hX.frozen 2
    simp only [List.getElem?_toArray, List.getElem?_cons_zero, List.getElem?_cons_succ] at hX_c0 hX_c1 hX_c2
    replace hR := hR.below hb1 (by first | omega | exact hR.lt | (simp; done) | (simp; omega))
    (try clear hR_c0); (try clear hR_f0)
    (try clear hR_c1); (try clear hR_f1)
    (try clear hR_c2); (try clear hR_f2)
    (try clear hR_lt)
    have hR_lt := hR.lt; (try simp only [World.size_alloc] at hR_lt)
    have hR_c0 := hR.cell 0; have hR_f0 := hR.frozen 0
    have hR_c1 := hR.cell 1; have hR_f1 := hR.frozen 1
    have hR_c2 := hR.cell 2; have hR_f2 := hR.frozen 2
    simp only [List.getElem?_toArray, List.getElem?_cons_zero, List.getElem?_cons_succ] at hR_c0 hR_c1 hR_c2
    have hB : Below w.heap.size w w1 := (by repeat (first | exact Below.refl _ _ | assumption | refine Below.setCell ?_ (by first | omega | (simp; done) | (simp; omega)) _ | refine Below.alloc ?_ (by first | omega | (simp; done) | (simp; omega)) _ | refine Below.drew ?_ | refine Below.drewN' ?_ _ | refine Below.trans ?_ (Below.mono (by assumption) (by first | omega | (simp; done) | (simp; omega)))))
    clear hb1
    go_wp2
    refine ⟨rfl, ?_⟩
    apply Exists.intro
    apply And.intro
    · simp [results, Try.results15, go_sem, hR_c0, hR_c1, hR_c2, hR_lt]; exact rfl
    · exact ⟨rfl, (by repeat (first | exact Below.refl _ _ | assumption | refine Below.setCell ?_ (by first | omega | (simp; done) | (simp; omega)) _ | refine Below.alloc ?_ (by first | omega | (simp; done) | (simp; omega)) _ | refine Below.drew ?_ | refine Below.drewN' ?_ _ | refine Below.trans ?_ (Below.mono (by assumption) (by first | omega | (simp; done) | (simp; omega)))))⟩
  · rw [q1] at hv
    cases q2 : wB x
    · rw [q2] at hx
      clear hno
      have HV := Lib.hid hv
      clear hv
      go_enter Try.func15, Try.ntmps15
      go_wp2_with fail
      refine (HV.out _ ?_).mono ?_
      · exact (Sl.alloc (Sl.alloc (Sl.alloc h (Nat.le_refl _) _) (by simp) _) (by simp; omega) _).more (by simp; omega)
      rintro y w1 ⟨rfl, hb1⟩
      replace hP := hP.below hb1 (by first | omega | exact hP.lt | (simp; done) | (simp; omega))
      (try clear hP_c0); (try clear hP_f0)
      (try clear hP_c1); (try clear hP_f1)
      (try clear hP_c2); (try clear hP_f2)
      (try clear hP_lt)
      have hP_lt := hP.lt; (try simp only [World.size_alloc] at hP_lt)
      have hP_c0 := hP.cell 0; have hP_f0 := hP.frozen 0
      have hP_c1 := hP.cell 1; have hP_f1 := hP.frozen 1
      have hP_c2 := hP.cell 2; have hP_f2 := hP.frozen 2
      simp only [List.getElem?_toArray, List.getElem?_cons_zero, List.getElem?_cons_succ] at hP_c0 hP_c1 hP_c2
      replace hX := hX.below hb1 (by first | omega | exact hX.lt | (simp; done) | (simp; omega))
      (try clear hX_c0); (try clear hX_f0)
      (try clear hX_c1); (try clear hX_f1)
      (try clear hX_c2); (try clear hX_f2)
      (try clear hX_lt)
      have hX_lt := hX.lt; (try simp only [World.size_alloc] at hX_lt)
      have hX_c0 := hX.cell 0; have hX_f0 := hX.frozen 0
      have hX_c1 := hX.cell 1; have hX_f1 := hX.frozen 1
      have hX_c2 := hX.cell 2; have hX_f2 := hX.frozen 2
      simp only [List.getElem?_toArray, List.getElem?_cons_zero, List.getElem?_cons_succ] at hX_c0 hX_c1 hX_c2
      replace hR := hR.below hb1 (by first | omega | exact hR.lt | (simp; done) | (simp; omega))
      (try clear hR_c0); (try clear hR_f0)
      (try clear hR_c1); (try clear hR_f1)
      (try clear hR_c2); (try clear hR_f2)
      (try clear hR_lt)
      have hR_lt := hR.lt; (try simp only [World.size_alloc] at hR_lt)
      have hR_c0 := hR.cell 0; have hR_f0 := hR.frozen 0
      have hR_c1 := hR.cell 1; have hR_f1 := hR.frozen 1
      have hR_c2 := hR.cell 2; have hR_f2 := hR.frozen 2
      simp only [List.getElem?_toArray, List.getElem?_cons_zero, List.getElem?_cons_succ] at hR_c0 hR_c1 hR_c2
      have hB : Below w.heap.size w w1 := (by repeat (first | exact Below.refl _ _ | assumption | refine Below.setCell ?_ (by first | omega | (simp; done) | (simp; omega)) _ | refine Below.alloc ?_ (by first | omega | (simp; done) | (simp; omega)) _ | refine Below.drew ?_ | refine Below.drewN' ?_ _ | refine Below.trans ?_ (Below.mono (by assumption) (by first | omega | (simp; done) | (simp; omega)))))
      clear hb1
      have HX := Lib.hid hx
      clear hx
      go_wp2_with fail
      refine (HX.out _).mono ?_
      rintro y w2 ⟨rfl, hb2⟩
      replace hP := hP.below hb2 (by first | omega | exact hP.lt | (simp; done) | (simp; omega))
      (try clear hP_c0); (try clear hP_f0)
      (try clear hP_c1); (try clear hP_f1)
      (try clear hP_c2); (try clear hP_f2)
      (try clear hP_lt)
      have hP_lt := hP.lt; (try simp only [World.size_alloc] at hP_lt)
      have hP_c0 := hP.cell 0; have hP_f0 := hP.frozen 0
      have hP_c1 := hP.cell 1; have hP_f1 := hP.frozen 1
      have hP_c2 := hP.cell 2; have hP_f2 := hP.frozen 2
      simp only [List.getElem?_toArray, List.getElem?_cons_zero, List.getElem?_cons_succ] at hP_c0 hP_c1 hP_c2
      replace hX := hX.below hb2 (by first | omega | exact hX.lt | (simp; done) | (simp; omega))
      (try clear hX_c0); (try clear hX_f0)
      (try clear hX_c1); (try clear hX_f1)
      (try clear hX_c2); (try clear hX_f2)
      (try clear hX_lt)
      have hX_lt := hX.lt; (try simp only [World.size_alloc] at hX_lt)
      have hX_c0 := hX.cell 0; have hX_f0 := hX.frozen 0
      have hX_c1 := hX.cell 1; have hX_f1 := hX.frozen 1
      have hX_c2 := hX.cell 2; have hX_f2 := hX.frozen 2
      simp only [List.getElem?_toArray, List.getElem?_cons_zero, List.getElem?_cons_succ] at hX_c0 hX_c1 hX_c2
      replace hR := hR.below hb2 (by first | omega | exact hR.lt | (simp; done) | (simp; omega))
      (try clear hR_c0); (try clear hR_f0)
      (try clear hR_c1); (try clear hR_f1)
      (try clear hR_c2); (try clear hR_f2)
      (try clear hR_lt)
      have hR_lt := hR.lt; (try simp only [World.size_alloc] at hR_lt)
      have hR_c0 := hR.cell 0; have hR_f0 := hR.frozen 0
      have hR_c1 := hR.cell 1; have hR_f1 := hR.frozen 1
      have hR_c2 := hR.cell 2; have hR_f2 := hR.frozen 2
      simp only [List.getElem?_toArray, List.getElem?_cons_zero, List.getElem?_cons_succ] at hR_c0 hR_c1 hR_c2
      replace hB := hB.trans (hb2.mono hB.size)
      clear hb2
      go_wp2
      refine ⟨rfl, ?_⟩
      apply Exists.intro
      apply And.intro
      · simp [results, Try.results15, go_sem, hR_c0, hR_c1, hR_c2, hR_lt]; exact rfl
      · exact ⟨rfl, (by repeat (first | exact Below.refl _ _ | assumption | refine Below.setCell ?_ (by first | omega | (simp; done) | (simp; omega)) _ | refine Below.alloc ?_ (by first | omega | (simp; done) | (simp; omega)) _ | refine Below.drew ?_ | refine Below.drewN' ?_ _ | refine Below.trans ?_ (Below.mono (by assumption) (by first | omega | (simp; done) | (simp; omega)))))⟩
    · rw [q2] at hx
      have q3 : ((n : Int) == 12) = true := by
        have h12 : xs.length = 12 := Classical.byContradiction fun h12 => hno ⟨pB_true.1 q1, of_decide_eq_true q2, h12⟩
        rw [HL.out] at h12
        simp
        omega
      clear hno
      have HV := Lib.hid hv
      clear hv
      go_enter Try.func15, Try.ntmps15
      go_wp2_with fail
      refine (HV.out _ ?_).mono ?_
      · exact (Sl.alloc (Sl.alloc (Sl.alloc h (Nat.le_refl _) _) (by simp) _) (by simp; omega) _).more (by simp; omega)
      rintro y w1 ⟨rfl, hb1⟩
      replace hP := hP.below hb1 (by first | omega | exact hP.lt | (simp; done) | (simp; omega))
      (try clear hP_c0); (try clear hP_f0)
      (try clear hP_c1); (try clear hP_f1)
      (try clear hP_c2); (try clear hP_f2)
      (try clear hP_lt)
      have hP_lt := hP.lt; (try simp only [World.size_alloc] at hP_lt)
      have hP_c0 := hP.cell 0; have hP_f0 := hP.frozen 0
      have hP_c1 := hP.cell 1; have hP_f1 := hP.frozen 1
      have hP_c2 := hP.cell 2; have hP_f2 := hP.frozen 2
      simp only [List.getElem?_toArray, List.getElem?_cons_zero, List.getElem?_cons_succ] at hP_c0 hP_c1 hP_c2
      replace hX := hX.below hb1 (by first | omega | exact hX.lt | (simp; done) | (simp; omega))
      (try clear hX_c0); (try clear hX_f0)
      (try clear hX_c1); (try clear hX_f1)
      (try clear hX_c2); (try clear hX_f2)
      (try clear hX_lt)
      have hX_lt := hX.lt; (try simp only [World.size_alloc] at hX_lt)
      have hX_c0 := hX.cell 0; have hX_f0 := hX.frozen 0
      have hX_c1 := hX.cell 1; have hX_f1 := hX.frozen 1
      have hX_c2 := hX.cell 2; have hX_f2 := hX.frozen 2
      simp only [List.getElem?_toArray, List.getElem?_cons_zero, List.getElem?_cons_succ] at hX_c0 hX_c1 hX_c2
      replace hR := hR.below hb1 (by first | omega | exact hR.lt | (simp; done) | (simp; omega))
      (try clear hR_c0); (try clear hR_f0)
      (try clear hR_c1); (try clear hR_f1)
      (try clear hR_c2); (try clear hR_f2)
      (try clear hR_lt)
      have hR_lt := hR.lt; (try simp only [World.size_alloc] at hR_lt)
      have hR_c0 := hR.cell 0; have hR_f0 := hR.frozen 0
      have hR_c1 := hR.cell 1; have hR_f1 := hR.frozen 1
      have hR_c2 := hR.cell 2; have hR_f2 := hR.frozen 2
      simp only [List.getElem?_toArray, List.getElem?_cons_zero, List.getElem?_cons_succ] at hR_c0 hR_c1 hR_c2
      have hB : Below w.heap.size w w1 := (by repeat (first | exact Below.refl _ _ | assumption | refine Below.setCell ?_ (by first | omega | (simp; done) | (simp; omega)) _ | refine Below.alloc ?_ (by first | omega | (simp; done) | (simp; omega)) _ | refine Below.drew ?_ | refine Below.drewN' ?_ _ | refine Below.trans ?_ (Below.mono (by assumption) (by first | omega | (simp; done) | (simp; omega)))))
      clear hb1
      have HX := Lib.hid hx
      clear hx
      go_wp2_with fail
      refine (HX.out _).mono ?_
      rintro y w2 ⟨rfl, hb2⟩
      replace hP := hP.below hb2 (by first | omega | exact hP.lt | (simp; done) | (simp; omega))
      (try clear hP_c0); (try clear hP_f0)
      (try clear hP_c1); (try clear hP_f1)
      (try clear hP_c2); (try clear hP_f2)
      (try clear hP_lt)
      have hP_lt := hP.lt; (try simp only [World.size_alloc] at hP_lt)
      have hP_c0 := hP.cell 0; have hP_f0 := hP.frozen 0
      have hP_c1 := hP.cell 1; have hP_f1 := hP.frozen 1
      have hP_c2 := hP.cell 2; have hP_f2 := hP.frozen 2
      simp only [List.getElem?_toArray, List.getElem?_cons_zero, List.getElem?_cons_succ] at hP_c0 hP_c1 hP_c2
      replace hX := hX.below hb2 (by first | omega | exact hX.lt | (simp; done) | (simp; omega))
      (try clear hX_c0); (try clear hX_f0)
      (try clear hX_c1); (try clear hX_f1)
      (try clear hX_c2); (try clear hX_f2)
      (try clear hX_lt)
      have hX_lt := hX.lt; (try simp only [World.size_alloc] at hX_lt)
      have hX_c0 := hX.cell 0; have hX_f0 := hX.frozen 0
      have hX_c1 := hX.cell 1; have hX_f1 := hX.frozen 1
      have hX_c2 := hX.cell 2; have hX_f2 := hX.frozen 2
      simp only [List.getElem?_toArray, List.getElem?_cons_zero, List.getElem?_cons_succ] at hX_c0 hX_c1 hX_c2
      replace hR := hR.below hb2 (by first | omega | exact hR.lt | (simp; done) | (simp; omega))
      (try clear hR_c0); (try clear hR_f0)
      (try clear hR_c1); (try clear hR_f1)
      (try clear hR_c2); (try clear hR_f2)
      (try clear hR_lt)
      have hR_lt := hR.lt; (try simp only [World.size_alloc] at hR_lt)
      have hR_c0 := hR.cell 0; have hR_f0 := hR.frozen 0
      have hR_c1 := hR.cell 1; have hR_f1 := hR.frozen 1
      have hR_c2 := hR.cell 2; have hR_f2 := hR.frozen 2
      simp only [List.getElem?_toArray, List.getElem?_cons_zero, List.getElem?_cons_succ] at hR_c0 hR_c1 hR_c2
      replace hB := hB.trans (hb2.mono hB.size)
      clear hb2
      go_wp2
      refine ⟨rfl, ?_⟩
      apply Exists.intro
      apply And.intro
      · simp [results, Try.results15, go_sem, hR_c0, hR_c1, hR_c2, hR_lt]; exact rfl
      · exact ⟨rfl, (by repeat (first | exact Below.refl _ _ | assumption | refine Below.setCell ?_ (by first | omega | (simp; done) | (simp; omega)) _ | refine Below.alloc ?_ (by first | omega | (simp; done) | (simp; omega)) _ | refine Below.drew ?_ | refine Below.drewN' ?_ _ | refine Below.trans ?_ (Below.mono (by assumption) (by first | omega | (simp; done) | (simp; omega)))))⟩

set_option maxHeartbeats 8000000 in
theorem sput_good (ea cr : Int) (A : Option Addr) (n c : Nat) (xs : List Wt) (x : Wt) (w : World) (h : Wts w w.heap.size A n xs) (hn : n ≤ 1099511627776) (hnc : n ≤ c) (hc : c ≤ maxLen) (hin : PutIn ea cr xs x) :
    Calls Try.prog 15 #[.agg #[.int .i64 ea, .int .i64 cr, .slice A n c], .agg #[.int .i64 x.id, .int .i64 x.cl, .int .i64 x.sz]] w fun y w' => ∃ k, Lead xs x.cl k ∧ putGood ea cr (putAt xs k x) w y w' := by
  have HL := Lib.hid h.len
  have hP := ((Bk.new w 25 #[.int .i64 ea, .int .i64 cr, .slice A n c]).alloc (.cells #[.int .i64 x.id, .int .i64 x.cl, .int .i64 x.sz] 27)).alloc (.cells #[.int .i64 0, .int .i64 0, .slice none 0 0] 25)
  have hX := (Bk.new (w.alloc (.cells #[.int .i64 ea, .int .i64 cr, .slice A n c] 25)) 27 #[.int .i64 x.id, .int .i64 x.cl, .int .i64 x.sz]).alloc (.cells #[.int .i64 0, .int .i64 0, .slice none 0 0] 25)
  have hR := Bk.new ((w.alloc (.cells #[.int .i64 ea, .int .i64 cr, .slice A n c] 25)).alloc (.cells #[.int .i64 x.id, .int .i64 x.cl, .int .i64 x.sz] 27)) 25 #[.int .i64 0, .int .i64 0, .slice none 0 0]
  simp only [World.size_alloc] at hX hR
  have hv := fun w h => spv_any ea cr A n c xs w h hn
  have hx := fun w => l22w_any x w
  have q1 : pB ea cr xs = true := pB_true.2 hin.1
  have q2 : wB x = true := decide_eq_true hin.2.1
  have q3 : ((n : Int) == 12) = false := by
    have := hin.2.2
    rw [HL.out] at this
    simp
    omega
  have hn12 : n ≤ 12 := by have := hin.1.2.2.2.2.1; rw [HL.out] at this; exact this
  obtain ⟨i0, hi0, hz0, hz1, hz2⟩ := info_parts wt_info
  rw [q1] at hv
  rw [q2] at hx
  clear hin q1 q2
  have HV := Lib.hid hv
  clear hv
  go_enter Try.func15, Try.ntmps15
  go_wp2_with fail
  refine (HV.out _ ?_).mono ?_
  · exact (Sl.alloc (Sl.alloc (Sl.alloc h (Nat.le_refl _) _) (by simp) _) (by simp; omega) _).more (by simp; omega)
  rintro y w1 ⟨rfl, hb1⟩
  replace hP := hP.below hb1 (by first | omega | exact hP.lt | (simp; done) | (simp; omega))
  (try clear hP_c0); (try clear hP_f0)
  (try clear hP_c1); (try clear hP_f1)
  (try clear hP_c2); (try clear hP_f2)
  (try clear hP_lt)
  have hP_lt := hP.lt; (try simp only [World.size_alloc] at hP_lt)
  have hP_c0 := hP.cell 0; have hP_f0 := hP.frozen 0
  have hP_c1 := hP.cell 1; have hP_f1 := hP.frozen 1
  have hP_c2 := hP.cell 2; have hP_f2 := hP.frozen 2
  simp only [List.getElem?_toArray, List.getElem?_cons_zero, List.getElem?_cons_succ] at hP_c0 hP_c1 hP_c2
  replace hX := hX.below hb1 (by first | omega | exact hX.lt | (simp; done) | (simp; omega))
  (try clear hX_c0); (try clear hX_f0)
  (try clear hX_c1); (try clear hX_f1)
  (try clear hX_c2); (try clear hX_f2)
  (try clear hX_lt)
  have hX_lt := hX.lt; (try simp only [World.size_alloc] at hX_lt)
  have hX_c0 := hX.cell 0; have hX_f0 := hX.frozen 0
  have hX_c1 := hX.cell 1; have hX_f1 := hX.frozen 1
  have hX_c2 := hX.cell 2; have hX_f2 := hX.frozen 2
  simp only [List.getElem?_toArray, List.getElem?_cons_zero, List.getElem?_cons_succ] at hX_c0 hX_c1 hX_c2
  replace hR := hR.below hb1 (by first | omega | exact hR.lt | (simp; done) | (simp; omega))
  (try clear hR_c0); (try clear hR_f0)
  (try clear hR_c1); (try clear hR_f1)
  (try clear hR_c2); (try clear hR_f2)
  (try clear hR_lt)
  have hR_lt := hR.lt; (try simp only [World.size_alloc] at hR_lt)
  have hR_c0 := hR.cell 0; have hR_f0 := hR.frozen 0
  have hR_c1 := hR.cell 1; have hR_f1 := hR.frozen 1
  have hR_c2 := hR.cell 2; have hR_f2 := hR.frozen 2
  simp only [List.getElem?_toArray, List.getElem?_cons_zero, List.getElem?_cons_succ] at hR_c0 hR_c1 hR_c2
  have hB : Below w.heap.size w w1 := (by repeat (first | exact Below.refl _ _ | assumption | refine Below.setCell ?_ (by first | omega | (simp; done) | (simp; omega)) _ | refine Below.alloc ?_ (by first | omega | (simp; done) | (simp; omega)) _ | refine Below.drew ?_ | refine Below.drewN' ?_ _ | refine Below.trans ?_ (Below.mono (by assumption) (by first | omega | (simp; done) | (simp; omega)))))
  clear hb1
  have HX := Lib.hid hx
  clear hx
  go_wp2_with fail
  refine (HX.out _).mono ?_
  rintro y w2 ⟨rfl, hb2⟩
  replace hP := hP.below hb2 (by first | omega | exact hP.lt | (simp; done) | (simp; omega))
  (try clear hP_c0); (try clear hP_f0)
  (try clear hP_c1); (try clear hP_f1)
  (try clear hP_c2); (try clear hP_f2)
  (try clear hP_lt)
  have hP_lt := hP.lt; (try simp only [World.size_alloc] at hP_lt)
  have hP_c0 := hP.cell 0; have hP_f0 := hP.frozen 0
  have hP_c1 := hP.cell 1; have hP_f1 := hP.frozen 1
  have hP_c2 := hP.cell 2; have hP_f2 := hP.frozen 2
  simp only [List.getElem?_toArray, List.getElem?_cons_zero, List.getElem?_cons_succ] at hP_c0 hP_c1 hP_c2
  replace hX := hX.below hb2 (by first | omega | exact hX.lt | (simp; done) | (simp; omega))
  (try clear hX_c0); (try clear hX_f0)
  (try clear hX_c1); (try clear hX_f1)
  (try clear hX_c2); (try clear hX_f2)
  (try clear hX_lt)
  have hX_lt := hX.lt; (try simp only [World.size_alloc] at hX_lt)
  have hX_c0 := hX.cell 0; have hX_f0 := hX.frozen 0
  have hX_c1 := hX.cell 1; have hX_f1 := hX.frozen 1
  have hX_c2 := hX.cell 2; have hX_f2 := hX.frozen 2
  simp only [List.getElem?_toArray, List.getElem?_cons_zero, List.getElem?_cons_succ] at hX_c0 hX_c1 hX_c2
  replace hR := hR.below hb2 (by first | omega | exact hR.lt | (simp; done) | (simp; omega))
  (try clear hR_c0); (try clear hR_f0)
  (try clear hR_c1); (try clear hR_f1)
  (try clear hR_c2); (try clear hR_f2)
  (try clear hR_lt)
  have hR_lt := hR.lt; (try simp only [World.size_alloc] at hR_lt)
  have hR_c0 := hR.cell 0; have hR_f0 := hR.frozen 0
  have hR_c1 := hR.cell 1; have hR_f1 := hR.frozen 1
  have hR_c2 := hR.cell 2; have hR_f2 := hR.frozen 2
  simp only [List.getElem?_toArray, List.getElem?_cons_zero, List.getElem?_cons_succ] at hR_c0 hR_c1 hR_c2
  replace hB := hB.trans (hb2.mono hB.size)
  clear hb2
  go_wp2_with fail
  (try clear hP_c0); (try clear hP_f0)
  (try clear hP_c1); (try clear hP_f1)
  (try clear hP_c2); (try clear hP_f2)
  (try clear hP_lt)
  (try clear hX_c0); (try clear hX_f0)
  (try clear hX_c1); (try clear hX_f1)
  (try clear hX_c2); (try clear hX_f2)
  (try clear hX_lt)
  (try clear hR_c0); (try clear hR_f0)
  (try clear hR_c1); (try clear hR_f1)
  (try clear hR_c2); (try clear hR_f2)
  (try clear hR_lt)
  go_loopw [6] (fun i wr => ∃ k : Nat, k ≤ n ∧ i = .int .i64 k ∧ Hid (LeadTo xs x.cl k) ∧ Bk wr w.heap.size 25 #[.int .i64 ea, .int .i64 cr, .slice A n c] ∧ Bk wr (w.heap.size + 1) 27 #[.int .i64 x.id, .int .i64 x.cl, .int .i64 x.sz] ∧ Bk wr (w.heap.size + 1 + 1) 25 #[.int .i64 0, .int .i64 0, .slice none 0 0] ∧ Below w.heap.size w wr) (fun i _ => n - (intOf i).toNat)
  case atStart => exact ⟨0, by omega, rfl, ⟨Nat.zero_le _, fun j y hj => absurd hj (by omega)⟩, hP, hX, hR, hB⟩
  case round =>
    obtain ⟨k, hk, rfl, hle, hP, hX, hR, hB⟩ := hrel
    (try clear hP_c0); (try clear hP_f0)
    (try clear hP_c1); (try clear hP_f1)
    (try clear hP_c2); (try clear hP_f2)
    (try clear hP_lt)
    have hP_lt := hP.lt; (try simp only [World.size_alloc] at hP_lt)
    have hP_c0 := hP.cell 0; have hP_f0 := hP.frozen 0
    have hP_c1 := hP.cell 1; have hP_f1 := hP.frozen 1
    have hP_c2 := hP.cell 2; have hP_f2 := hP.frozen 2
    simp only [List.getElem?_toArray, List.getElem?_cons_zero, List.getElem?_cons_succ] at hP_c0 hP_c1 hP_c2
    (try clear hX_c0); (try clear hX_f0)
    (try clear hX_c1); (try clear hX_f1)
    (try clear hX_c2); (try clear hX_f2)
    (try clear hX_lt)
    have hX_lt := hX.lt; (try simp only [World.size_alloc] at hX_lt)
    have hX_c0 := hX.cell 0; have hX_f0 := hX.frozen 0
    have hX_c1 := hX.cell 1; have hX_f1 := hX.frozen 1
    have hX_c2 := hX.cell 2; have hX_f2 := hX.frozen 2
    simp only [List.getElem?_toArray, List.getElem?_cons_zero, List.getElem?_cons_succ] at hX_c0 hX_c1 hX_c2
    (try clear hR_c0); (try clear hR_f0)
    (try clear hR_c1); (try clear hR_f1)
    (try clear hR_c2); (try clear hR_f2)
    (try clear hR_lt)
    have hR_lt := hR.lt; (try simp only [World.size_alloc] at hR_lt)
    have hR_c0 := hR.cell 0; have hR_f0 := hR.frozen 0
    have hR_c1 := hR.cell 1; have hR_f1 := hR.frozen 1
    have hR_c2 := hR.cell 2; have hR_f2 := hR.frozen 2
    simp only [List.getElem?_toArray, List.getElem?_cons_zero, List.getElem?_cons_succ] at hR_c0 hR_c1 hR_c2
    have key : k < n → (∀ y, xs[k]? = some y → x.cl < y.cl) → Hid (Lead xs x.cl k) := fun _ hh => ⟨hle.out.1, hle.out.2, hh⟩
    have key2 : k = n → Hid (Lead xs x.cl k) := fun hh => ⟨hle.out.1, hle.out.2, fun y hy => by
      have := (List.getElem?_eq_some_iff.1 hy).1
      rw [HL.out] at this
      omega⟩
    by_cases hlt : k < n
    · have e0 : decide (k < n) = true := by simpa using hlt
      obtain ⟨b, off, rfl, hb, hcell⟩ := h.addr (by omega)
      obtain ⟨y, hy⟩ : ∃ y, xs[k]? = some y := ⟨_, List.getElem?_eq_getElem (by rw [HL.out]; exact hlt)⟩
      obtain ⟨-, c1, -⟩ := hcell k y hy
      replace c1 := (hB.cell (p := ⟨b, off + k * 3 + 1, none⟩) hb).trans c1
      have HY := Lib.hid hy
      clear hcell hy
      by_cases hyc : y.cl ≤ x.cl
      · have g1 : decide (y.cl ≤ x.cl) = true := by simpa using hyc
        have hnx := Lib.hid (hle.out.succ HY.out hyc)
        clear key key2
        go_wp2_with fail
        go_quiet (fail)
        go_wp2
        go_roundw
        case rel => exact ⟨k + 1, by omega, by go_num, hnx.out, hP, hX, hR, Below.drewN' hB _⟩
        case measure => simp [intOf]; omega
      · have g1 : decide (y.cl ≤ x.cl) = false := by simpa using hyc
        have hlead := key hlt (fun z hz => by rw [HY.out] at hz; injection hz with hz; subst hz; omega)
        clear key key2
        go_wp2_with fail
        go_quiet (fail)
        go_wp2_with fail
        clear c1 HY hle
        generalize (some (⟨b, off, none⟩ : Addr)) = A at *
        (try clear hP_c0); (try clear hP_f0)
        (try clear hP_c1); (try clear hP_f1)
        (try clear hP_c2); (try clear hP_f2)
        (try clear hP_lt)
        (try clear hX_c0); (try clear hX_f0)
        (try clear hX_c1); (try clear hX_f1)
        (try clear hX_c2); (try clear hX_f2)
        (try clear hX_lt)
        (try clear hR_c0); (try clear hR_f0)
        (try clear hR_c1); (try clear hR_f1)
        (try clear hR_c2); (try clear hR_f2)
        (try clear hR_lt)
        have hkn : k ≤ n := hk
        have hlead := Lib.hid hlead
        replace hP := hP.drewN nq
        replace hX := hX.drewN nq
        replace hR := hR.drewN nq
        replace hB : Below w.heap.size w (wr.drewN nq) := Below.drewN' hB nq
        have hsl : Wts (wr.drewN nq) w.heap.size A n xs := Sl.below h hB
        generalize wr.drewN nq = W at *
        have hPl := hP.lt
        have hXl := hX.lt
        have hRl := hR.lt
        have hBs := hB.size
        have hlen : (xs.take k).length = k := by rw [List.length_take, HL.out]; omega
        refine wp_region_use S6 T6 (fun _ => True) [] (fun _ w' => Below W.heap.size W w') (R6 27) (I6 27 W.heap.size w.heap.size A n c k xs x) (by kernel_rfl) (by kernel_rfl) (by kernel_rfl) (Below.drew (Below.refl _ _)) trivial (by kernel_rfl) I6.mono (fun _ _ _ _ _ _ => trivial) ⟨?_, ?_, ?_, ?_, ?_, ?_, ?_, ?_, ?_, ?_, trivial⟩ ?_
        · intro m y wv hm hb hd _
          have HB := Lib.hid hb
          have hbs := hb.size
          clear hm hd hb
          refine ⟨?_⟩
          simp only [fill, Act.put, List.setIfInBounds_toArray, List.set_cons_zero, List.set_cons_succ]
          go_simp
          exact ⟨(Below.refl _ _).alloc (Nat.le_refl _) _, HB.out.alloc hbs _, _, hbs, rfl, Bk.new _ _ _⟩
        · intro m y wv hm hb hd _
          have HB := Lib.hid hb
          clear hm hd hb
          refine ⟨?_⟩
          simp only [fill, Act.put, List.setIfInBounds_toArray, List.set_cons_zero, List.set_cons_succ]
          go_simp
          exact ⟨Below.refl _ _, HB.out, rfl⟩
        · intro m y wv hm hb hd _
          have d1 := hd { on := 1, ground := .data } (by simp) (by kernel_rfl) (by kernel_rfl)
          replace d1 : y 1 = .pointer (some ⟨w.heap.size, 2, none⟩) := d1
          replace hP := hP.below hb hPl
          (try clear hP_c0); (try clear hP_f0)
          (try clear hP_c1); (try clear hP_f1)
          (try clear hP_c2); (try clear hP_f2)
          (try clear hP_lt)
          have hP_lt := hP.lt; (try simp only [World.size_alloc] at hP_lt)
          have hP_c0 := hP.cell 0; have hP_f0 := hP.frozen 0
          have hP_c1 := hP.cell 1; have hP_f1 := hP.frozen 1
          have hP_c2 := hP.cell 2; have hP_f2 := hP.frozen 2
          simp only [List.getElem?_toArray, List.getElem?_cons_zero, List.getElem?_cons_succ] at hP_c0 hP_c1 hP_c2
          have HB := Lib.hid hb
          clear hm hd hb
          refine ⟨?_⟩
          simp only [fill, Act.put, List.setIfInBounds_toArray, List.set_cons_zero, List.set_cons_succ]
          go_simp
          exact ⟨Below.refl _ _, HB.out, rfl⟩
        · intro m y wv hm hb hd _
          have HB := Lib.hid hb
          clear hm hd hb
          refine ⟨?_⟩
          simp only [fill, Act.put, List.setIfInBounds_toArray, List.set_cons_zero, List.set_cons_succ]
          go_simp
          exact ⟨Below.refl _ _, HB.out, rfl⟩
        · intro m y wv hm hb hd _
          have d2 := hd { on := 2, ground := .data } (by simp) (by kernel_rfl) (by kernel_rfl)
          have d3 := hd { on := 3, ground := .data } (by simp) (by kernel_rfl) (by kernel_rfl)
          replace d2 : y 2 = .slice A n c := d2
          replace d3 : y 3 = .int .i64 k := d3
          have hkc : k ≤ c := by omega
          have HB := Lib.hid hb
          clear hm hd hb
          refine ⟨?_⟩
          simp only [fill, Act.put, List.setIfInBounds_toArray, List.set_cons_zero, List.set_cons_succ]
          go_simp
          exact ⟨Below.refl _ _, HB.out, rfl⟩
        · intro m y wv hm hb hd _
          have d0 := hd { on := 0, ground := .data } (by simp) (by kernel_rfl) (by kernel_rfl)
          have d4 := hd { on := 4, ground := .data } (by simp) (by kernel_rfl) (by kernel_rfl)
          obtain ⟨g, hg, hx0, hbk⟩ := d0
          replace d4 : y 4 = .slice A k c := d4
          have hs5 : Sl wv w.heap.size 3 A k ((xs.take k).flatMap Wt.c) := by
            have := (Sl.below hsl (hb.mono hBs)).take_ (k := k) hkn
            rwa [flat_take] at this
          have own0 : wv.ownsRow W.heap.size 27 3 (.slice (some ⟨g, 0, none⟩) 0 0) 0 [] := ⟨by simp, .inr ⟨g, 0, #[], rfl, hg, hbk, Nat.le_refl _, Nat.zero_le _, by simp, by simp⟩⟩
          clear hm hd
          refine ⟨?_⟩
          simp only [fill, Act.put, List.setIfInBounds_toArray, List.set_cons_zero, List.set_cons_succ]
          refine wp_app wv (.tmp 41) (.tmp 45) 23 rfl W.heap.size 27 i0 (.agg #[.int .i64 0, .int .i64 0, .int .i64 0]) 3 24 Try.underlying23 hi0 hz0 hz1 hz2 rfl (by omega) _ 0 [] ?_ own0 w.heap.size A k c _ ?_ hs5 (one_wts _) (by unfold maxLen; omega) (by omega) hb.size ?_
          · exact hx0
          · exact d4
          intro v' w' hown hgr hat
          exact ⟨v', rfl, ⟨g, hgr, hbk⟩, Below.grown_own hb hgr own0 (Nat.le_refl _) hb.size, by simpa [I6] using hown⟩
        · intro m y wv hm hb hd _
          replace hX := hX.below hb hXl
          (try clear hX_c0); (try clear hX_f0)
          (try clear hX_c1); (try clear hX_f1)
          (try clear hX_c2); (try clear hX_f2)
          (try clear hX_lt)
          have hX_lt := hX.lt; (try simp only [World.size_alloc] at hX_lt)
          have hX_c0 := hX.cell 0; have hX_f0 := hX.frozen 0
          have hX_c1 := hX.cell 1; have hX_f1 := hX.frozen 1
          have hX_c2 := hX.cell 2; have hX_f2 := hX.frozen 2
          simp only [List.getElem?_toArray, List.getElem?_cons_zero, List.getElem?_cons_succ] at hX_c0 hX_c1 hX_c2
          have HB := Lib.hid hb
          clear hm hd hb
          refine ⟨?_⟩
          simp only [fill, Act.put, List.setIfInBounds_toArray, List.set_cons_zero, List.set_cons_succ]
          go_simp
          exact ⟨Below.refl _ _, HB.out, rfl⟩
        · intro m y wv hm hb hd _
          have d6 := hd { on := 6, ground := .data } (by simp) (by kernel_rfl) (by kernel_rfl)
          replace d6 : y 6 = .agg #[.int .i64 x.id, .int .i64 x.cl, .int .i64 x.sz] := d6
          have HB := Lib.hid hb
          have hbs := hb.size
          clear hm hd hb
          refine ⟨?_⟩
          simp only [fill, Act.put, List.setIfInBounds_toArray, List.set_cons_zero, List.set_cons_succ]
          go_simp
          exact ⟨(Below.refl _ _).alloc (Nat.le_refl _) _, HB.out.alloc hbs _, _, hbs, rfl, Bk.new _ _ _⟩
        · intro m y wv hm hb hd _
          have d5 := hd { on := 5, ground := .data } (by simp) (by kernel_rfl) (by kernel_rfl)
          have d7 := hd { on := 7, ground := .data } (by simp) (by kernel_rfl) (by kernel_rfl)
          obtain ⟨g, hg, hx7, hbk⟩ := d7
          replace d5 : wv.ownsRow W.heap.size 27 3 (y 5) k ((xs.take k).flatMap Wt.c) := d5
          have hs8 : Sl wv wv.heap.size 3 (some ⟨g, 0, none⟩) 1 x.c := ⟨rfl, fun _ => ⟨g, 0, rfl, hbk.lt, fun j u hu => by rw [Nat.zero_add, hbk.cell j]; simpa [Wt.c] using hu⟩⟩
          clear hm hd
          refine ⟨?_⟩
          simp only [fill, Act.put, List.setIfInBounds_toArray, List.set_cons_zero, List.set_cons_succ]
          refine wp_app wv (.tmp 46) (.tmp 48) 23 rfl W.heap.size 27 i0 (.agg #[.int .i64 0, .int .i64 0, .int .i64 0]) 3 24 Try.underlying23 hi0 hz0 hz1 hz2 rfl (by omega) (y 5) k _ ?_ d5 wv.heap.size (some ⟨g, 0, none⟩) 1 1 x.c ?_ hs8 (one_wt x) (by unfold maxLen; omega) (by omega) hb.size ?_
          · rfl
          · exact hx7
          intro v' w' hown hgr hat
          exact ⟨v', rfl, trivial, Below.grown_own hb hgr d5 (Nat.le_refl _) hb.size, hown⟩
        · intro m y wv hm hb hd _
          have d8 := Lib.hid (hd { on := 8, ground := .data } (by simp) (by kernel_rfl) (by kernel_rfl))
          have HB := Lib.hid hb
          clear hm hd hb
          refine ⟨?_⟩
          simp only [fill, Act.put, List.setIfInBounds_toArray, List.set_cons_zero, List.set_cons_succ]
          go_simp
          exact ⟨Below.refl _ _, HB.out, d8.out⟩
        · intro y W2 hb hI
          have h9 : W2.ownsRow W.heap.size 27 3 (y 9) (k + 1) ((xs.take k).flatMap Wt.c ++ x.c) := hI 9 (by decide) rfl
          clear hI
          have hP2 := hP.below hb hPl
          have hR2 := hR.below hb hRl
          obtain ⟨v7, hv7⟩ : ∃ v, y 9 = v := ⟨_, rfl⟩
          rw [hv7] at h9
          refine ⟨?_⟩
          simp only [fill, Act.put, List.setIfInBounds_toArray, List.set_cons_zero, List.set_cons_succ, hv7]
          have H9 := Lib.hid h9
          have HBW := Lib.hid hb
          clear h9 hb hv7
          go_wp2_with fail
          refine wp_region_use S7 T7 (fun w' => w'.ownsRow W.heap.size 27 3 v7 (k + 1) ((xs.take k).flatMap Wt.c ++ x.c)) [9] (fun _ w' => Only (w.heap.size + 1 + 1) W w' ∧ ∃ c0 c1 c2, Bk w' (w.heap.size + 1 + 1) 25 #[c0, c1, c2]) (R7 (w.heap.size + 1 + 1)) (I7 27 25 W.heap.size w.heap.size (w.heap.size + 1 + 1) A n c k xs x ea cr v7) (by kernel_rfl) (by kernel_rfl) (by kernel_rfl) ⟨Only.drew (Only.of_below HBW.out), _, _, _, Bk.drew hR2⟩ H9.out (by kernel_rfl) (fun i j v w1 w2 a1 a2 a3 a4 a5 => I7.mono i j v w1 w2 a1 a2 a3 a4 (by omega) a5) (fun i w1 w2 hi hR h => own_only h (R7_only (by rintro rfl; simp at hi) hR) (by omega)) ⟨?_, ?_, ?_, ?_, ?_, ?_, ?_, ?_, ?_, ?_, ?_, ?_, ?_, trivial⟩ ?_
          · intro m z wv hm ⟨hb, hcs⟩ hd hz
            have HB := Lib.hid (And.intro hb hcs)
            clear hm hd hb hcs hz
            refine ⟨?_⟩
            simp only [fill, Act.put, List.setIfInBounds_toArray, List.set_cons_zero, List.set_cons_succ]
            go_simp
            exact ⟨Below.refl _ _, HB.out, rfl⟩
          · intro m z wv hm ⟨hb, hcs⟩ hd hz
            have d0 := hd { on := 0, ground := .data } (by simp) (by kernel_rfl) (by kernel_rfl)
            replace d0 : z 0 = .pointer (some ⟨w.heap.size, 0, none⟩) := d0
            replace hP := hP.only hb (by omega)
            (try clear hP_c0); (try clear hP_f0)
            (try clear hP_c1); (try clear hP_f1)
            (try clear hP_c2); (try clear hP_f2)
            (try clear hP_lt)
            have hP_lt := hP.lt; (try simp only [World.size_alloc] at hP_lt)
            have hP_c0 := hP.cell 0; have hP_f0 := hP.frozen 0
            have hP_c1 := hP.cell 1; have hP_f1 := hP.frozen 1
            have hP_c2 := hP.cell 2; have hP_f2 := hP.frozen 2
            simp only [List.getElem?_toArray, List.getElem?_cons_zero, List.getElem?_cons_succ] at hP_c0 hP_c1 hP_c2
            have HB := Lib.hid (And.intro hb hcs)
            clear hm hd hb hcs hz
            refine ⟨?_⟩
            simp only [fill, Act.put, List.setIfInBounds_toArray, List.set_cons_zero, List.set_cons_succ]
            go_simp
            exact ⟨Below.refl _ _, HB.out, rfl⟩
          · intro m z wv hm ⟨hb, hcs⟩ hd hz
            have HB := Lib.hid (And.intro hb hcs)
            clear hm hd hb hcs hz
            refine ⟨?_⟩
            simp only [fill, Act.put, List.setIfInBounds_toArray, List.set_cons_zero, List.set_cons_succ]
            go_simp
            exact ⟨Below.refl _ _, HB.out, rfl⟩
          · intro m z wv hm ⟨hb, hcs⟩ hd hz
            have d2 := hd { on := 2, ground := .data } (by simp) (by kernel_rfl) (by kernel_rfl)
            replace d2 : z 2 = .pointer (some ⟨w.heap.size, 1, none⟩) := d2
            replace hP := hP.only hb (by omega)
            (try clear hP_c0); (try clear hP_f0)
            (try clear hP_c1); (try clear hP_f1)
            (try clear hP_c2); (try clear hP_f2)
            (try clear hP_lt)
            have hP_lt := hP.lt; (try simp only [World.size_alloc] at hP_lt)
            have hP_c0 := hP.cell 0; have hP_f0 := hP.frozen 0
            have hP_c1 := hP.cell 1; have hP_f1 := hP.frozen 1
            have hP_c2 := hP.cell 2; have hP_f2 := hP.frozen 2
            simp only [List.getElem?_toArray, List.getElem?_cons_zero, List.getElem?_cons_succ] at hP_c0 hP_c1 hP_c2
            have HB := Lib.hid (And.intro hb hcs)
            clear hm hd hb hcs hz
            refine ⟨?_⟩
            simp only [fill, Act.put, List.setIfInBounds_toArray, List.set_cons_zero, List.set_cons_succ]
            go_simp
            exact ⟨Below.refl _ _, HB.out, rfl⟩
          · intro m z wv hm ⟨hb, hcs⟩ hd hz
            have hown := hz (by kernel_rfl)
            have HO := Lib.hid hown
            clear hown
            have HB := Lib.hid (And.intro hb hcs)
            clear hm hd hb hcs hz
            refine ⟨?_⟩
            simp only [fill, Act.put, List.setIfInBounds_toArray, List.set_cons_zero, List.set_cons_succ]
            go_simp
            exact ⟨Below.refl _ _, HB.out, rfl, HO.out⟩
          · intro m z wv hm ⟨hb, hcs⟩ hd hz
            have HB := Lib.hid (And.intro hb hcs)
            clear hm hd hb hcs hz
            refine ⟨?_⟩
            simp only [fill, Act.put, List.setIfInBounds_toArray, List.set_cons_zero, List.set_cons_succ]
            go_simp
            exact ⟨Below.refl _ _, HB.out, rfl⟩
          · intro m z wv hm ⟨hb, hcs⟩ hd hz
            have d5 := hd { on := 5, ground := .data } (by simp) (by kernel_rfl) (by kernel_rfl)
            replace d5 : z 5 = .pointer (some ⟨w.heap.size, 2, none⟩) := d5
            replace hP := hP.only hb (by omega)
            (try clear hP_c0); (try clear hP_f0)
            (try clear hP_c1); (try clear hP_f1)
            (try clear hP_c2); (try clear hP_f2)
            (try clear hP_lt)
            have hP_lt := hP.lt; (try simp only [World.size_alloc] at hP_lt)
            have hP_c0 := hP.cell 0; have hP_f0 := hP.frozen 0
            have hP_c1 := hP.cell 1; have hP_f1 := hP.frozen 1
            have hP_c2 := hP.cell 2; have hP_f2 := hP.frozen 2
            simp only [List.getElem?_toArray, List.getElem?_cons_zero, List.getElem?_cons_succ] at hP_c0 hP_c1 hP_c2
            have HB := Lib.hid (And.intro hb hcs)
            clear hm hd hb hcs hz
            refine ⟨?_⟩
            simp only [fill, Act.put, List.setIfInBounds_toArray, List.set_cons_zero, List.set_cons_succ]
            go_simp
            exact ⟨Below.refl _ _, HB.out, rfl⟩
          · intro m z wv hm ⟨hb, hcs⟩ hd hz
            have HB := Lib.hid (And.intro hb hcs)
            clear hm hd hb hcs hz
            refine ⟨?_⟩
            simp only [fill, Act.put, List.setIfInBounds_toArray, List.set_cons_zero, List.set_cons_succ]
            go_simp
            exact ⟨Below.refl _ _, HB.out, rfl⟩
          · intro m z wv hm ⟨hb, hcs⟩ hd hz
            have d6 := hd { on := 6, ground := .data } (by simp) (by kernel_rfl) (by kernel_rfl)
            replace d6 : z 6 = .slice A n c := d6
            have d7 := hd { on := 7, ground := .data } (by simp) (by kernel_rfl) (by kernel_rfl)
            replace d7 : z 7 = .int .i64 k := d7
            have hkc : k ≤ c := by omega
            have HB := Lib.hid (And.intro hb hcs)
            clear hm hd hb hcs hz
            refine ⟨?_⟩
            simp only [fill, Act.put, List.setIfInBounds_toArray, List.set_cons_zero, List.set_cons_succ]
            go_simp
            exact ⟨Below.refl _ _, HB.out, rfl⟩
          · intro m z wv hm ⟨hb, hcs⟩ hd hz
            have d4 := hd { on := 4, ground := .data } (by simp) (by kernel_rfl) (by kernel_rfl)
            have d8 := hd { on := 8, ground := .data } (by simp) (by kernel_rfl) (by kernel_rfl)
            obtain ⟨hz4, hown⟩ := d4
            replace d8 : z 8 = .slice (if c = k then A else A.map (·.add (k * 3))) (n - k) (c - k) := d8
            have hs9 : Sl wv w.heap.size 3 (if c = k then A else A.map (·.add (k * 3))) (n - k) ((xs.drop k).flatMap Wt.c) := by
              have := (Sl.only hsl hb (by omega) hBs).drop_ (k := k) (c := c) hkn hnc
              rwa [flat_drop] at this
            obtain ⟨c0, c1, c2, hbk⟩ := hcs
            clear hm hd hz
            refine ⟨?_⟩
            simp only [fill, Act.put, List.setIfInBounds_toArray, List.set_cons_zero, List.set_cons_succ]
            refine wp_app wv (.tmp 54) (.tmp 58) 23 rfl W.heap.size 27 i0 (.agg #[.int .i64 0, .int .i64 0, .int .i64 0]) 3 24 Try.underlying23 hi0 hz0 hz1 hz2 rfl (by omega) v7 (k + 1) _ ?_ hown w.heap.size (if c = k then A else A.map (·.add (k * 3))) (n - k) (c - k) _ ?_ hs9 (one_wts _) (by unfold maxLen; omega) (by omega) hb.size ?_
            · exact hz4
            · exact d8
            intro v' w' hown' hgr hat
            exact ⟨v', rfl, trivial, ⟨Only.grown_own hb hgr hown (Nat.le_refl _), c0, c1, c2, hbk.grown_own hgr hown (by omega)⟩, hown'⟩
          · intro m z wv hm ⟨hb, hcs⟩ hd hz
            have d1 := hd { on := 1, ground := .data } (by simp) (by kernel_rfl) (by kernel_rfl)
            replace d1 : z 1 = .int .i64 ea := d1
            have d3 := hd { on := 3, ground := .data } (by simp) (by kernel_rfl) (by kernel_rfl)
            replace d3 : z 3 = .int .i64 cr := d3
            have d9 := hd { on := 9, ground := .data } (by simp) (by kernel_rfl) (by kernel_rfl)
            obtain ⟨A9, c9, hz9, -⟩ := own_shape d9
            have HO := Lib.hid d9
            clear d9
            have HB := Lib.hid (And.intro hb hcs)
            clear hm hd hb hcs hz
            have HZ := Lib.hid hz9
            refine ⟨?_⟩
            simp only [fill, Act.put, List.setIfInBounds_toArray, List.set_cons_zero, List.set_cons_succ]
            go_simp
            exact ⟨Below.refl _ _, HB.out, _, rfl, by rw [← HZ.out]; exact HO.out⟩
          · intro m z wv hm ⟨hb, hcs⟩ hd hz
            have d10 := hd { on := 10, ground := .data } (by simp) (by kernel_rfl) (by kernel_rfl)
            obtain ⟨u, hz10, hown⟩ := d10
            obtain ⟨A9, c9, rfl, -⟩ := own_shape hown
            obtain ⟨c0, c1, c2, hbk⟩ := hcs
            have hO : Only (w.heap.size + 1 + 1) W (((wv.setCell ⟨w.heap.size + 1 + 1, 0, none⟩ (.int .i64 ea)).setCell ⟨w.heap.size + 1 + 1, 1, none⟩ (.int .i64 cr)).setCell ⟨w.heap.size + 1 + 1, 2, none⟩ (.slice A9 (k + 1 + (n - k)) c9)) := ((hb.setCell (p := ⟨w.heap.size + 1 + 1, 0, none⟩) (.inl rfl) _).setCell (p := ⟨w.heap.size + 1 + 1, 1, none⟩) (.inl rfl) _).setCell (p := ⟨w.heap.size + 1 + 1, 2, none⟩) (.inl rfl) _
            have hO2 : Only (w.heap.size + 1 + 1) wv (((wv.setCell ⟨w.heap.size + 1 + 1, 0, none⟩ (.int .i64 ea)).setCell ⟨w.heap.size + 1 + 1, 1, none⟩ (.int .i64 cr)).setCell ⟨w.heap.size + 1 + 1, 2, none⟩ (.slice A9 (k + 1 + (n - k)) c9)) := (((Only.refl _ _).setCell (p := ⟨w.heap.size + 1 + 1, 0, none⟩) (.inl rfl) _).setCell (p := ⟨w.heap.size + 1 + 1, 1, none⟩) (.inl rfl) _).setCell (p := ⟨w.heap.size + 1 + 1, 2, none⟩) (.inl rfl) _
            have hK := ((hbk.set_ 0 (.int .i64 ea)).set_ 1 (.int .i64 cr)).set_ 2 (.slice A9 (k + 1 + (n - k)) c9)
            have HO := Lib.hid (own_only hown hO2 (by omega))
            have HA := Lib.hid hO
            have HA2 := Lib.hid hO2
            have HK := Lib.hid hK
            (try clear hbk_c0); (try clear hbk_f0)
            (try clear hbk_c1); (try clear hbk_f1)
            (try clear hbk_c2); (try clear hbk_f2)
            (try clear hbk_lt)
            have hbk_lt := hbk.lt; (try simp only [World.size_alloc] at hbk_lt)
            have hbk_c0 := hbk.cell 0; have hbk_f0 := hbk.frozen 0
            have hbk_c1 := hbk.cell 1; have hbk_f1 := hbk.frozen 1
            have hbk_c2 := hbk.cell 2; have hbk_f2 := hbk.frozen 2
            simp only [List.getElem?_toArray, List.getElem?_cons_zero, List.getElem?_cons_succ] at hbk_c0 hbk_c1 hbk_c2
            clear hm hd hz hb hO hO2 hK hown
            refine ⟨?_⟩
            simp only [fill, Act.put, List.setIfInBounds_toArray, List.set_cons_zero, List.set_cons_succ]
            go_simp
            exact ⟨HA2.out, ⟨HA.out, _, _, _, by simpa using HK.out⟩, undef, _, by simpa using HK.out, HO.out⟩
          · intro m z wv hm ⟨hb, hcs⟩ hd hz
            have HB := Lib.hid (And.intro hb hcs)
            clear hm hd hb hcs hz
            refine ⟨?_⟩
            simp only [fill, Act.put, List.setIfInBounds_toArray, List.set_cons_zero, List.set_cons_succ]
            go_simp
            exact ⟨Below.refl _ _, HB.out, rfl⟩
          · intro z W3 ⟨hb, hcs⟩ hI
            obtain ⟨u, hbk, hown⟩ := hI 11 (by decide) rfl
            have h12 : z 12 = .bool true := hI 12 (by decide) rfl
            obtain ⟨A9, c9, rfl, -⟩ := own_shape hown
            clear hI hcs
            have hB3 : Below w.heap.size w W3 := hB.trans (hb.below (by omega) hBs)
            have hfin : W3.ownsRow w.heap.size 27 3 (.slice A9 (k + 1 + (n - k)) c9) (putAt xs k x).length ((putAt xs k x).flatMap Wt.c) := by
              have h1 := own_more hown hBs
              have h2 : (putAt xs k x).length = k + 1 + (n - k) := by rw [putAt_len (by rw [HL.out]; exact hkn), HL.out]; omega
              have h3 : (putAt xs k x).flatMap Wt.c = (xs.take k).flatMap Wt.c ++ x.c ++ (xs.drop k).flatMap Wt.c := by simp [putAt]
              rw [h2, h3]
              exact h1
            have HF := Lib.hid hfin
            clear hfin hown hb
            (try clear hbk_c0); (try clear hbk_f0)
            (try clear hbk_c1); (try clear hbk_f1)
            (try clear hbk_c2); (try clear hbk_f2)
            (try clear hbk_lt)
            have hbk_lt := hbk.lt; (try simp only [World.size_alloc] at hbk_lt)
            have hbk_c0 := hbk.cell 0; have hbk_f0 := hbk.frozen 0
            have hbk_c1 := hbk.cell 1; have hbk_f1 := hbk.frozen 1
            have hbk_c2 := hbk.cell 2; have hbk_f2 := hbk.frozen 2
            simp only [List.getElem?_toArray, List.getElem?_cons_zero, List.getElem?_cons_succ] at hbk_c0 hbk_c1 hbk_c2
            refine ⟨?_⟩
            simp only [fill, Act.put, List.setIfInBounds_toArray, List.set_cons_zero, List.set_cons_succ, h12]
            go_wp2
            refine ⟨rfl, ?_⟩
            apply Exists.intro
            apply And.intro
            · simp [results, Try.results15, go_sem, hbk_c0, hbk_c1, hbk_c2, hbk_lt]; exact rfl
            · exact ⟨k, hlead.out, _, rfl, HF.out, hB3⟩
    · have e0 : decide (k < n) = false := by simpa using hlt
      have hlead := key2 (by omega)
      clear key key2
      go_wp2_with fail
      go_quiet (fail)
      go_wp2_with fail
      clear hle
      (try clear hP_c0); (try clear hP_f0)
      (try clear hP_c1); (try clear hP_f1)
      (try clear hP_c2); (try clear hP_f2)
      (try clear hP_lt)
      (try clear hX_c0); (try clear hX_f0)
      (try clear hX_c1); (try clear hX_f1)
      (try clear hX_c2); (try clear hX_f2)
      (try clear hX_lt)
      (try clear hR_c0); (try clear hR_f0)
      (try clear hR_c1); (try clear hR_f1)
      (try clear hR_c2); (try clear hR_f2)
      (try clear hR_lt)
      have hkn : k ≤ n := hk
      have hlead := Lib.hid hlead
      replace hP := hP.drewN nq
      replace hX := hX.drewN nq
      replace hR := hR.drewN nq
      replace hB : Below w.heap.size w (wr.drewN nq) := Below.drewN' hB nq
      have hsl : Wts (wr.drewN nq) w.heap.size A n xs := Sl.below h hB
      generalize wr.drewN nq = W at *
      have hPl := hP.lt
      have hXl := hX.lt
      have hRl := hR.lt
      have hBs := hB.size
      have hlen : (xs.take k).length = k := by rw [List.length_take, HL.out]; omega
      refine wp_region_use S6 T6 (fun _ => True) [] (fun _ w' => Below W.heap.size W w') (R6 27) (I6 27 W.heap.size w.heap.size A n c k xs x) (by kernel_rfl) (by kernel_rfl) (by kernel_rfl) (Below.drew (Below.refl _ _)) trivial (by kernel_rfl) I6.mono (fun _ _ _ _ _ _ => trivial) ⟨?_, ?_, ?_, ?_, ?_, ?_, ?_, ?_, ?_, ?_, trivial⟩ ?_
      · intro m y wv hm hb hd _
        have HB := Lib.hid hb
        have hbs := hb.size
        clear hm hd hb
        refine ⟨?_⟩
        simp only [fill, Act.put, List.setIfInBounds_toArray, List.set_cons_zero, List.set_cons_succ]
        go_simp
        exact ⟨(Below.refl _ _).alloc (Nat.le_refl _) _, HB.out.alloc hbs _, _, hbs, rfl, Bk.new _ _ _⟩
      · intro m y wv hm hb hd _
        have HB := Lib.hid hb
        clear hm hd hb
        refine ⟨?_⟩
        simp only [fill, Act.put, List.setIfInBounds_toArray, List.set_cons_zero, List.set_cons_succ]
        go_simp
        exact ⟨Below.refl _ _, HB.out, rfl⟩
      · intro m y wv hm hb hd _
        have d1 := hd { on := 1, ground := .data } (by simp) (by kernel_rfl) (by kernel_rfl)
        replace d1 : y 1 = .pointer (some ⟨w.heap.size, 2, none⟩) := d1
        replace hP := hP.below hb hPl
        (try clear hP_c0); (try clear hP_f0)
        (try clear hP_c1); (try clear hP_f1)
        (try clear hP_c2); (try clear hP_f2)
        (try clear hP_lt)
        have hP_lt := hP.lt; (try simp only [World.size_alloc] at hP_lt)
        have hP_c0 := hP.cell 0; have hP_f0 := hP.frozen 0
        have hP_c1 := hP.cell 1; have hP_f1 := hP.frozen 1
        have hP_c2 := hP.cell 2; have hP_f2 := hP.frozen 2
        simp only [List.getElem?_toArray, List.getElem?_cons_zero, List.getElem?_cons_succ] at hP_c0 hP_c1 hP_c2
        have HB := Lib.hid hb
        clear hm hd hb
        refine ⟨?_⟩
        simp only [fill, Act.put, List.setIfInBounds_toArray, List.set_cons_zero, List.set_cons_succ]
        go_simp
        exact ⟨Below.refl _ _, HB.out, rfl⟩
      · intro m y wv hm hb hd _
        have HB := Lib.hid hb
        clear hm hd hb
        refine ⟨?_⟩
        simp only [fill, Act.put, List.setIfInBounds_toArray, List.set_cons_zero, List.set_cons_succ]
        go_simp
        exact ⟨Below.refl _ _, HB.out, rfl⟩
      · intro m y wv hm hb hd _
        have d2 := hd { on := 2, ground := .data } (by simp) (by kernel_rfl) (by kernel_rfl)
        have d3 := hd { on := 3, ground := .data } (by simp) (by kernel_rfl) (by kernel_rfl)
        replace d2 : y 2 = .slice A n c := d2
        replace d3 : y 3 = .int .i64 k := d3
        have hkc : k ≤ c := by omega
        have HB := Lib.hid hb
        clear hm hd hb
        refine ⟨?_⟩
        simp only [fill, Act.put, List.setIfInBounds_toArray, List.set_cons_zero, List.set_cons_succ]
        go_simp
        exact ⟨Below.refl _ _, HB.out, rfl⟩
      · intro m y wv hm hb hd _
        have d0 := hd { on := 0, ground := .data } (by simp) (by kernel_rfl) (by kernel_rfl)
        have d4 := hd { on := 4, ground := .data } (by simp) (by kernel_rfl) (by kernel_rfl)
        obtain ⟨g, hg, hx0, hbk⟩ := d0
        replace d4 : y 4 = .slice A k c := d4
        have hs5 : Sl wv w.heap.size 3 A k ((xs.take k).flatMap Wt.c) := by
          have := (Sl.below hsl (hb.mono hBs)).take_ (k := k) hkn
          rwa [flat_take] at this
        have own0 : wv.ownsRow W.heap.size 27 3 (.slice (some ⟨g, 0, none⟩) 0 0) 0 [] := ⟨by simp, .inr ⟨g, 0, #[], rfl, hg, hbk, Nat.le_refl _, Nat.zero_le _, by simp, by simp⟩⟩
        clear hm hd
        refine ⟨?_⟩
        simp only [fill, Act.put, List.setIfInBounds_toArray, List.set_cons_zero, List.set_cons_succ]
        refine wp_app wv (.tmp 41) (.tmp 45) 23 rfl W.heap.size 27 i0 (.agg #[.int .i64 0, .int .i64 0, .int .i64 0]) 3 24 Try.underlying23 hi0 hz0 hz1 hz2 rfl (by omega) _ 0 [] ?_ own0 w.heap.size A k c _ ?_ hs5 (one_wts _) (by unfold maxLen; omega) (by omega) hb.size ?_
        · exact hx0
        · exact d4
        intro v' w' hown hgr hat
        exact ⟨v', rfl, ⟨g, hgr, hbk⟩, Below.grown_own hb hgr own0 (Nat.le_refl _) hb.size, by simpa [I6] using hown⟩
      · intro m y wv hm hb hd _
        replace hX := hX.below hb hXl
        (try clear hX_c0); (try clear hX_f0)
        (try clear hX_c1); (try clear hX_f1)
        (try clear hX_c2); (try clear hX_f2)
        (try clear hX_lt)
        have hX_lt := hX.lt; (try simp only [World.size_alloc] at hX_lt)
        have hX_c0 := hX.cell 0; have hX_f0 := hX.frozen 0
        have hX_c1 := hX.cell 1; have hX_f1 := hX.frozen 1
        have hX_c2 := hX.cell 2; have hX_f2 := hX.frozen 2
        simp only [List.getElem?_toArray, List.getElem?_cons_zero, List.getElem?_cons_succ] at hX_c0 hX_c1 hX_c2
        have HB := Lib.hid hb
        clear hm hd hb
        refine ⟨?_⟩
        simp only [fill, Act.put, List.setIfInBounds_toArray, List.set_cons_zero, List.set_cons_succ]
        go_simp
        exact ⟨Below.refl _ _, HB.out, rfl⟩
      · intro m y wv hm hb hd _
        have d6 := hd { on := 6, ground := .data } (by simp) (by kernel_rfl) (by kernel_rfl)
        replace d6 : y 6 = .agg #[.int .i64 x.id, .int .i64 x.cl, .int .i64 x.sz] := d6
        have HB := Lib.hid hb
        have hbs := hb.size
        clear hm hd hb
        refine ⟨?_⟩
        simp only [fill, Act.put, List.setIfInBounds_toArray, List.set_cons_zero, List.set_cons_succ]
        go_simp
        exact ⟨(Below.refl _ _).alloc (Nat.le_refl _) _, HB.out.alloc hbs _, _, hbs, rfl, Bk.new _ _ _⟩
      · intro m y wv hm hb hd _
        have d5 := hd { on := 5, ground := .data } (by simp) (by kernel_rfl) (by kernel_rfl)
        have d7 := hd { on := 7, ground := .data } (by simp) (by kernel_rfl) (by kernel_rfl)
        obtain ⟨g, hg, hx7, hbk⟩ := d7
        replace d5 : wv.ownsRow W.heap.size 27 3 (y 5) k ((xs.take k).flatMap Wt.c) := d5
        have hs8 : Sl wv wv.heap.size 3 (some ⟨g, 0, none⟩) 1 x.c := ⟨rfl, fun _ => ⟨g, 0, rfl, hbk.lt, fun j u hu => by rw [Nat.zero_add, hbk.cell j]; simpa [Wt.c] using hu⟩⟩
        clear hm hd
        refine ⟨?_⟩
        simp only [fill, Act.put, List.setIfInBounds_toArray, List.set_cons_zero, List.set_cons_succ]
        refine wp_app wv (.tmp 46) (.tmp 48) 23 rfl W.heap.size 27 i0 (.agg #[.int .i64 0, .int .i64 0, .int .i64 0]) 3 24 Try.underlying23 hi0 hz0 hz1 hz2 rfl (by omega) (y 5) k _ ?_ d5 wv.heap.size (some ⟨g, 0, none⟩) 1 1 x.c ?_ hs8 (one_wt x) (by unfold maxLen; omega) (by omega) hb.size ?_
        · rfl
        · exact hx7
        intro v' w' hown hgr hat
        exact ⟨v', rfl, trivial, Below.grown_own hb hgr d5 (Nat.le_refl _) hb.size, hown⟩
      · intro m y wv hm hb hd _
        have d8 := Lib.hid (hd { on := 8, ground := .data } (by simp) (by kernel_rfl) (by kernel_rfl))
        have HB := Lib.hid hb
        clear hm hd hb
        refine ⟨?_⟩
        simp only [fill, Act.put, List.setIfInBounds_toArray, List.set_cons_zero, List.set_cons_succ]
        go_simp
        exact ⟨Below.refl _ _, HB.out, d8.out⟩
      · intro y W2 hb hI
        have h9 : W2.ownsRow W.heap.size 27 3 (y 9) (k + 1) ((xs.take k).flatMap Wt.c ++ x.c) := hI 9 (by decide) rfl
        clear hI
        have hP2 := hP.below hb hPl
        have hR2 := hR.below hb hRl
        obtain ⟨v7, hv7⟩ : ∃ v, y 9 = v := ⟨_, rfl⟩
        rw [hv7] at h9
        refine ⟨?_⟩
        simp only [fill, Act.put, List.setIfInBounds_toArray, List.set_cons_zero, List.set_cons_succ, hv7]
        have H9 := Lib.hid h9
        have HBW := Lib.hid hb
        clear h9 hb hv7
        go_wp2_with fail
        refine wp_region_use S7 T7 (fun w' => w'.ownsRow W.heap.size 27 3 v7 (k + 1) ((xs.take k).flatMap Wt.c ++ x.c)) [9] (fun _ w' => Only (w.heap.size + 1 + 1) W w' ∧ ∃ c0 c1 c2, Bk w' (w.heap.size + 1 + 1) 25 #[c0, c1, c2]) (R7 (w.heap.size + 1 + 1)) (I7 27 25 W.heap.size w.heap.size (w.heap.size + 1 + 1) A n c k xs x ea cr v7) (by kernel_rfl) (by kernel_rfl) (by kernel_rfl) ⟨Only.drew (Only.of_below HBW.out), _, _, _, Bk.drew hR2⟩ H9.out (by kernel_rfl) (fun i j v w1 w2 a1 a2 a3 a4 a5 => I7.mono i j v w1 w2 a1 a2 a3 a4 (by omega) a5) (fun i w1 w2 hi hR h => own_only h (R7_only (by rintro rfl; simp at hi) hR) (by omega)) ⟨?_, ?_, ?_, ?_, ?_, ?_, ?_, ?_, ?_, ?_, ?_, ?_, ?_, trivial⟩ ?_
        · intro m z wv hm ⟨hb, hcs⟩ hd hz
          have HB := Lib.hid (And.intro hb hcs)
          clear hm hd hb hcs hz
          refine ⟨?_⟩
          simp only [fill, Act.put, List.setIfInBounds_toArray, List.set_cons_zero, List.set_cons_succ]
          go_simp
          exact ⟨Below.refl _ _, HB.out, rfl⟩
        · intro m z wv hm ⟨hb, hcs⟩ hd hz
          have d0 := hd { on := 0, ground := .data } (by simp) (by kernel_rfl) (by kernel_rfl)
          replace d0 : z 0 = .pointer (some ⟨w.heap.size, 0, none⟩) := d0
          replace hP := hP.only hb (by omega)
          (try clear hP_c0); (try clear hP_f0)
          (try clear hP_c1); (try clear hP_f1)
          (try clear hP_c2); (try clear hP_f2)
          (try clear hP_lt)
          have hP_lt := hP.lt; (try simp only [World.size_alloc] at hP_lt)
          have hP_c0 := hP.cell 0; have hP_f0 := hP.frozen 0
          have hP_c1 := hP.cell 1; have hP_f1 := hP.frozen 1
          have hP_c2 := hP.cell 2; have hP_f2 := hP.frozen 2
          simp only [List.getElem?_toArray, List.getElem?_cons_zero, List.getElem?_cons_succ] at hP_c0 hP_c1 hP_c2
          have HB := Lib.hid (And.intro hb hcs)
          clear hm hd hb hcs hz
          refine ⟨?_⟩
          simp only [fill, Act.put, List.setIfInBounds_toArray, List.set_cons_zero, List.set_cons_succ]
          go_simp
          exact ⟨Below.refl _ _, HB.out, rfl⟩
        · intro m z wv hm ⟨hb, hcs⟩ hd hz
          have HB := Lib.hid (And.intro hb hcs)
          clear hm hd hb hcs hz
          refine ⟨?_⟩
          simp only [fill, Act.put, List.setIfInBounds_toArray, List.set_cons_zero, List.set_cons_succ]
          go_simp
          exact ⟨Below.refl _ _, HB.out, rfl⟩
        · intro m z wv hm ⟨hb, hcs⟩ hd hz
          have d2 := hd { on := 2, ground := .data } (by simp) (by kernel_rfl) (by kernel_rfl)
          replace d2 : z 2 = .pointer (some ⟨w.heap.size, 1, none⟩) := d2
          replace hP := hP.only hb (by omega)
          (try clear hP_c0); (try clear hP_f0)
          (try clear hP_c1); (try clear hP_f1)
          (try clear hP_c2); (try clear hP_f2)
          (try clear hP_lt)
          have hP_lt := hP.lt; (try simp only [World.size_alloc] at hP_lt)
          have hP_c0 := hP.cell 0; have hP_f0 := hP.frozen 0
          have hP_c1 := hP.cell 1; have hP_f1 := hP.frozen 1
          have hP_c2 := hP.cell 2; have hP_f2 := hP.frozen 2
          simp only [List.getElem?_toArray, List.getElem?_cons_zero, List.getElem?_cons_succ] at hP_c0 hP_c1 hP_c2
          have HB := Lib.hid (And.intro hb hcs)
          clear hm hd hb hcs hz
          refine ⟨?_⟩
          simp only [fill, Act.put, List.setIfInBounds_toArray, List.set_cons_zero, List.set_cons_succ]
          go_simp
          exact ⟨Below.refl _ _, HB.out, rfl⟩
        · intro m z wv hm ⟨hb, hcs⟩ hd hz
          have hown := hz (by kernel_rfl)
          have HO := Lib.hid hown
          clear hown
          have HB := Lib.hid (And.intro hb hcs)
          clear hm hd hb hcs hz
          refine ⟨?_⟩
          simp only [fill, Act.put, List.setIfInBounds_toArray, List.set_cons_zero, List.set_cons_succ]
          go_simp
          exact ⟨Below.refl _ _, HB.out, rfl, HO.out⟩
        · intro m z wv hm ⟨hb, hcs⟩ hd hz
          have HB := Lib.hid (And.intro hb hcs)
          clear hm hd hb hcs hz
          refine ⟨?_⟩
          simp only [fill, Act.put, List.setIfInBounds_toArray, List.set_cons_zero, List.set_cons_succ]
          go_simp
          exact ⟨Below.refl _ _, HB.out, rfl⟩
        · intro m z wv hm ⟨hb, hcs⟩ hd hz
          have d5 := hd { on := 5, ground := .data } (by simp) (by kernel_rfl) (by kernel_rfl)
          replace d5 : z 5 = .pointer (some ⟨w.heap.size, 2, none⟩) := d5
          replace hP := hP.only hb (by omega)
          (try clear hP_c0); (try clear hP_f0)
          (try clear hP_c1); (try clear hP_f1)
          (try clear hP_c2); (try clear hP_f2)
          (try clear hP_lt)
          have hP_lt := hP.lt; (try simp only [World.size_alloc] at hP_lt)
          have hP_c0 := hP.cell 0; have hP_f0 := hP.frozen 0
          have hP_c1 := hP.cell 1; have hP_f1 := hP.frozen 1
          have hP_c2 := hP.cell 2; have hP_f2 := hP.frozen 2
          simp only [List.getElem?_toArray, List.getElem?_cons_zero, List.getElem?_cons_succ] at hP_c0 hP_c1 hP_c2
          have HB := Lib.hid (And.intro hb hcs)
          clear hm hd hb hcs hz
          refine ⟨?_⟩
          simp only [fill, Act.put, List.setIfInBounds_toArray, List.set_cons_zero, List.set_cons_succ]
          go_simp
          exact ⟨Below.refl _ _, HB.out, rfl⟩
        · intro m z wv hm ⟨hb, hcs⟩ hd hz
          have HB := Lib.hid (And.intro hb hcs)
          clear hm hd hb hcs hz
          refine ⟨?_⟩
          simp only [fill, Act.put, List.setIfInBounds_toArray, List.set_cons_zero, List.set_cons_succ]
          go_simp
          exact ⟨Below.refl _ _, HB.out, rfl⟩
        · intro m z wv hm ⟨hb, hcs⟩ hd hz
          have d6 := hd { on := 6, ground := .data } (by simp) (by kernel_rfl) (by kernel_rfl)
          replace d6 : z 6 = .slice A n c := d6
          have d7 := hd { on := 7, ground := .data } (by simp) (by kernel_rfl) (by kernel_rfl)
          replace d7 : z 7 = .int .i64 k := d7
          have hkc : k ≤ c := by omega
          have HB := Lib.hid (And.intro hb hcs)
          clear hm hd hb hcs hz
          refine ⟨?_⟩
          simp only [fill, Act.put, List.setIfInBounds_toArray, List.set_cons_zero, List.set_cons_succ]
          go_simp
          exact ⟨Below.refl _ _, HB.out, rfl⟩
        · intro m z wv hm ⟨hb, hcs⟩ hd hz
          have d4 := hd { on := 4, ground := .data } (by simp) (by kernel_rfl) (by kernel_rfl)
          have d8 := hd { on := 8, ground := .data } (by simp) (by kernel_rfl) (by kernel_rfl)
          obtain ⟨hz4, hown⟩ := d4
          replace d8 : z 8 = .slice (if c = k then A else A.map (·.add (k * 3))) (n - k) (c - k) := d8
          have hs9 : Sl wv w.heap.size 3 (if c = k then A else A.map (·.add (k * 3))) (n - k) ((xs.drop k).flatMap Wt.c) := by
            have := (Sl.only hsl hb (by omega) hBs).drop_ (k := k) (c := c) hkn hnc
            rwa [flat_drop] at this
          obtain ⟨c0, c1, c2, hbk⟩ := hcs
          clear hm hd hz
          refine ⟨?_⟩
          simp only [fill, Act.put, List.setIfInBounds_toArray, List.set_cons_zero, List.set_cons_succ]
          refine wp_app wv (.tmp 54) (.tmp 58) 23 rfl W.heap.size 27 i0 (.agg #[.int .i64 0, .int .i64 0, .int .i64 0]) 3 24 Try.underlying23 hi0 hz0 hz1 hz2 rfl (by omega) v7 (k + 1) _ ?_ hown w.heap.size (if c = k then A else A.map (·.add (k * 3))) (n - k) (c - k) _ ?_ hs9 (one_wts _) (by unfold maxLen; omega) (by omega) hb.size ?_
          · exact hz4
          · exact d8
          intro v' w' hown' hgr hat
          exact ⟨v', rfl, trivial, ⟨Only.grown_own hb hgr hown (Nat.le_refl _), c0, c1, c2, hbk.grown_own hgr hown (by omega)⟩, hown'⟩
        · intro m z wv hm ⟨hb, hcs⟩ hd hz
          have d1 := hd { on := 1, ground := .data } (by simp) (by kernel_rfl) (by kernel_rfl)
          replace d1 : z 1 = .int .i64 ea := d1
          have d3 := hd { on := 3, ground := .data } (by simp) (by kernel_rfl) (by kernel_rfl)
          replace d3 : z 3 = .int .i64 cr := d3
          have d9 := hd { on := 9, ground := .data } (by simp) (by kernel_rfl) (by kernel_rfl)
          obtain ⟨A9, c9, hz9, -⟩ := own_shape d9
          have HO := Lib.hid d9
          clear d9
          have HB := Lib.hid (And.intro hb hcs)
          clear hm hd hb hcs hz
          have HZ := Lib.hid hz9
          refine ⟨?_⟩
          simp only [fill, Act.put, List.setIfInBounds_toArray, List.set_cons_zero, List.set_cons_succ]
          go_simp
          exact ⟨Below.refl _ _, HB.out, _, rfl, by rw [← HZ.out]; exact HO.out⟩
        · intro m z wv hm ⟨hb, hcs⟩ hd hz
          have d10 := hd { on := 10, ground := .data } (by simp) (by kernel_rfl) (by kernel_rfl)
          obtain ⟨u, hz10, hown⟩ := d10
          obtain ⟨A9, c9, rfl, -⟩ := own_shape hown
          obtain ⟨c0, c1, c2, hbk⟩ := hcs
          have hO : Only (w.heap.size + 1 + 1) W (((wv.setCell ⟨w.heap.size + 1 + 1, 0, none⟩ (.int .i64 ea)).setCell ⟨w.heap.size + 1 + 1, 1, none⟩ (.int .i64 cr)).setCell ⟨w.heap.size + 1 + 1, 2, none⟩ (.slice A9 (k + 1 + (n - k)) c9)) := ((hb.setCell (p := ⟨w.heap.size + 1 + 1, 0, none⟩) (.inl rfl) _).setCell (p := ⟨w.heap.size + 1 + 1, 1, none⟩) (.inl rfl) _).setCell (p := ⟨w.heap.size + 1 + 1, 2, none⟩) (.inl rfl) _
          have hO2 : Only (w.heap.size + 1 + 1) wv (((wv.setCell ⟨w.heap.size + 1 + 1, 0, none⟩ (.int .i64 ea)).setCell ⟨w.heap.size + 1 + 1, 1, none⟩ (.int .i64 cr)).setCell ⟨w.heap.size + 1 + 1, 2, none⟩ (.slice A9 (k + 1 + (n - k)) c9)) := (((Only.refl _ _).setCell (p := ⟨w.heap.size + 1 + 1, 0, none⟩) (.inl rfl) _).setCell (p := ⟨w.heap.size + 1 + 1, 1, none⟩) (.inl rfl) _).setCell (p := ⟨w.heap.size + 1 + 1, 2, none⟩) (.inl rfl) _
          have hK := ((hbk.set_ 0 (.int .i64 ea)).set_ 1 (.int .i64 cr)).set_ 2 (.slice A9 (k + 1 + (n - k)) c9)
          have HO := Lib.hid (own_only hown hO2 (by omega))
          have HA := Lib.hid hO
          have HA2 := Lib.hid hO2
          have HK := Lib.hid hK
          (try clear hbk_c0); (try clear hbk_f0)
          (try clear hbk_c1); (try clear hbk_f1)
          (try clear hbk_c2); (try clear hbk_f2)
          (try clear hbk_lt)
          have hbk_lt := hbk.lt; (try simp only [World.size_alloc] at hbk_lt)
          have hbk_c0 := hbk.cell 0; have hbk_f0 := hbk.frozen 0
          have hbk_c1 := hbk.cell 1; have hbk_f1 := hbk.frozen 1
          have hbk_c2 := hbk.cell 2; have hbk_f2 := hbk.frozen 2
          simp only [List.getElem?_toArray, List.getElem?_cons_zero, List.getElem?_cons_succ] at hbk_c0 hbk_c1 hbk_c2
          clear hm hd hz hb hO hO2 hK hown
          refine ⟨?_⟩
          simp only [fill, Act.put, List.setIfInBounds_toArray, List.set_cons_zero, List.set_cons_succ]
          go_simp
          exact ⟨HA2.out, ⟨HA.out, _, _, _, by simpa using HK.out⟩, undef, _, by simpa using HK.out, HO.out⟩
        · intro m z wv hm ⟨hb, hcs⟩ hd hz
          have HB := Lib.hid (And.intro hb hcs)
          clear hm hd hb hcs hz
          refine ⟨?_⟩
          simp only [fill, Act.put, List.setIfInBounds_toArray, List.set_cons_zero, List.set_cons_succ]
          go_simp
          exact ⟨Below.refl _ _, HB.out, rfl⟩
        · intro z W3 ⟨hb, hcs⟩ hI
          obtain ⟨u, hbk, hown⟩ := hI 11 (by decide) rfl
          have h12 : z 12 = .bool true := hI 12 (by decide) rfl
          obtain ⟨A9, c9, rfl, -⟩ := own_shape hown
          clear hI hcs
          have hB3 : Below w.heap.size w W3 := hB.trans (hb.below (by omega) hBs)
          have hfin : W3.ownsRow w.heap.size 27 3 (.slice A9 (k + 1 + (n - k)) c9) (putAt xs k x).length ((putAt xs k x).flatMap Wt.c) := by
            have h1 := own_more hown hBs
            have h2 : (putAt xs k x).length = k + 1 + (n - k) := by rw [putAt_len (by rw [HL.out]; exact hkn), HL.out]; omega
            have h3 : (putAt xs k x).flatMap Wt.c = (xs.take k).flatMap Wt.c ++ x.c ++ (xs.drop k).flatMap Wt.c := by simp [putAt]
            rw [h2, h3]
            exact h1
          have HF := Lib.hid hfin
          clear hfin hown hb
          (try clear hbk_c0); (try clear hbk_f0)
          (try clear hbk_c1); (try clear hbk_f1)
          (try clear hbk_c2); (try clear hbk_f2)
          (try clear hbk_lt)
          have hbk_lt := hbk.lt; (try simp only [World.size_alloc] at hbk_lt)
          have hbk_c0 := hbk.cell 0; have hbk_f0 := hbk.frozen 0
          have hbk_c1 := hbk.cell 1; have hbk_f1 := hbk.frozen 1
          have hbk_c2 := hbk.cell 2; have hbk_f2 := hbk.frozen 2
          simp only [List.getElem?_toArray, List.getElem?_cons_zero, List.getElem?_cons_succ] at hbk_c0 hbk_c1 hbk_c2
          refine ⟨?_⟩
          simp only [fill, Act.put, List.setIfInBounds_toArray, List.set_cons_zero, List.set_cons_succ, h12]
          go_wp2
          refine ⟨rfl, ?_⟩
          apply Exists.intro
          apply And.intro
          · simp [results, Try.results15, go_sem, hbk_c0, hbk_c1, hbk_c2, hbk_lt]; exact rfl
          · exact ⟨k, hlead.out, _, rfl, HF.out, hB3⟩
end Go.Proofs.Ytilokgloocbbnaa
