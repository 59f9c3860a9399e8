/-
  Slices of Demand: copies, what is equal, marks; both mirrors.
  Conditions: the slices' memory and lengths, as each theorem states them.
-/
import Derived.Test.YthkoafcbcnobhaaRows
import Derived.Test.YthkoafcbcnobhaaLib
import Derived.Test.YthkoafcbcnobhaaOwn
import Derived.Test.YthkoafcbcnobhaaBut
import Derived.Test.YthkoafcbcnobhaaBasD
import Derived.Outline
namespace Go.Proofs.Ythkoafcbcnobhaa
open Go.RowKit
set_option linter.unusedVariables false
set_option linter.unusedSimpArgs false

theorem Bk.put {w : World} {g o : Nat} {T : TypeId} {pre r : List Value} {x : Value} (h : Bk w g T (pre ++ x :: r).toArray) (ho : pre.length = o) (v : Value) : Bk (w.setCell ⟨g, o, none⟩ v) g T (pre ++ v :: r).toArray := by
  have h1 := h.set_ o v
  subst ho
  have e : (pre ++ x :: r).set pre.length v = pre ++ v :: r := by simp [List.set_append]
  rw [List.setIfInBounds_toArray, e] at h1
  exact h1
theorem Bk.at_ {w : World} {g o : Nat} {T : TypeId} {pre r : List Value} {x : Value} (h : Bk w g T (pre ++ x :: r).toArray) (ho : pre.length = o) : w.cell? ⟨g, o, none⟩ = some x := by
  rw [h.cell o]
  subst ho
  simp
theorem split_4 {r : List Value} (h : 4 ≤ r.length) : ∃ x0 x1 x2 x3 r', r = x0 :: x1 :: x2 :: x3 :: r' := by
  match r, h with
  | x0 :: x1 :: x2 :: x3 :: r', _ => exact ⟨x0, x1, x2, x3, r', rfl⟩

theorem flat_succD (xs : List Dm) (k : Nat) (x : Dm) (h : xs[k]? = some x) : (xs.take (k + 1)).flatMap Dm.c = (xs.take k).flatMap Dm.c ++ x.c := by
  have hlt := (List.getElem?_eq_some_iff.1 h).1
  have hx := (List.getElem?_eq_some_iff.1 h).2
  rw [List.take_succ_eq_append_getElem hlt, hx]
  simp
theorem flat_tlenD (xs : List Dm) (k : Nat) (h : k ≤ xs.length) : ((xs.take k).flatMap Dm.c).length = k * 4 := by
  rw [flat_lenD, List.length_take]
  rw [Nat.min_eq_left h]

set_option maxHeartbeats 1000000 in
theorem toDemand_any (x : Dm) (w : World) : Calls Try.prog 33 #[.agg #[.int .i64 x.we, .int .i64 x.lo, .int .i64 x.mi, .int .i64 x.hi]] w fun e w' => e = .returned (.agg #[.int .i64 x.we, .int .i64 x.lo, .int .i64 x.mi, .int .i64 x.hi]) ∧ Below w.heap.size w w' := by
  go_enter Try.func33, Try.ntmps33
  go_wp2
  refine ⟨rfl, ?_⟩
  apply Exists.intro
  apply And.intro
  · simp [results, Try.results33, go_sem]; exact rfl
  · exact ⟨rfl, (by repeat (first | exact Below.refl _ _ | assumption | refine Below.setCell ?_ (by first | omega | (simp; done) | (simp; omega)) _ | refine Below.alloc ?_ (by first | omega | (simp; done) | (simp; omega)) _ | refine Below.drew ?_ | refine Below.drewN' ?_ _ | refine Below.trans ?_ (Below.mono (by assumption) (by first | omega | (simp; done) | (simp; omega)))))⟩

set_option maxHeartbeats 1000000 in
theorem eqDemand_same (x : Dm) (w : World) : Calls Try.prog 36 #[.agg #[.int .i64 x.we, .int .i64 x.lo, .int .i64 x.mi, .int .i64 x.hi], .agg #[.int .i64 x.we, .int .i64 x.lo, .int .i64 x.mi, .int .i64 x.hi]] w fun e w' => e = .returned (.bool true) ∧ Below w.heap.size w w' := by
  go_enter Try.func36, Try.ntmps36
  go_wp2
  go_ret
  exact ⟨rfl, (by repeat (first | exact Below.refl _ _ | assumption | refine Below.setCell ?_ (by first | omega | (simp; done) | (simp; omega)) _ | refine Below.alloc ?_ (by first | omega | (simp; done) | (simp; omega)) _ | refine Below.drew ?_ | refine Below.drewN' ?_ _ | refine Below.trans ?_ (Below.mono (by assumption) (by first | omega | (simp; done) | (simp; omega)))))⟩

theorem info_D : (Try.prog.info? 46).map (fun i => (i.zero, i.size, i.bytes)) = some (some (.agg #[.int .i64 0, .int .i64 0, .int .i64 0, .int .i64 0]), 4, 32) := by kernel_rfl
set_option maxHeartbeats 2000000 in
theorem toDemandS_any (A : Option Addr) (n c : Nat) (xs : List Dm) (w : World) (h : Dms w w.heap.size A n xs) (hc : n ≤ 2097152) :
    Calls Try.prog 15 #[.slice A n c] w fun e w' => ∃ g, e = .returned (.slice (some ⟨g, 0, none⟩) n n) ∧ w.heap.size ≤ g ∧ Bk w' g 46 (xs.flatMap Dm.c).toArray ∧ Below w.heap.size w w' := by
  have HL := Lib.hid h.len
  obtain ⟨i0, hi0, hz0, hz1, hz2⟩ := info_parts info_D
  go_enter Try.func15, Try.ntmps15
  go_wp2_with (at_make; refine wpList_make_full _ rfl _ _ 26 rfl w.heap.size 46 i0 (.agg #[.int .i64 0, .int .i64 0, .int .i64 0, .int .i64 0]) 4 Try.underlying26 hi0 hz0 hz1 .i64 .i64 _ _ n rfl rfl rfl rfl (by rw [hz2]; omega) (by unfold maxLen; omega) (Nat.le_refl _) ?_; intro w1 hown hgrow)
  have hp0 : ∃ r : List Value, Bk w1 w.heap.size 46 (((xs.take 0).flatMap Dm.c) ++ r).toArray ∧ r.length = (n - 0) * 4 := by
    rcases hown.2 with ⟨h1, _⟩ | ⟨g, cap, cur, hv, _, hg, _, _, hs, _⟩
    · cases h1
    · injection hv with hv _ hcap
      injection hv with hv
      injection hv with hv
      subst hv hcap
      exact ⟨cur.toList, by have h0 : Bk w1 w.heap.size 46 cur := hg; simpa using h0, by simpa using hs⟩
  have hb0 : Below w.heap.size w w1 := (Below.refl _ _).grown hgrow (Nat.le_refl _) (by simp)
  clear hown hgrow
  go_loopw [4] (fun i wr => ∃ (k : Nat) (r : List Value), k ≤ n ∧ i = .int .i64 k ∧ Bk wr w.heap.size 46 (((xs.take k).flatMap Dm.c) ++ r).toArray ∧ r.length = (n - k) * 4 ∧ Below w.heap.size w wr) (fun i _ => n - (intOf i).toNat)
  case atStart =>
    obtain ⟨r, h1, h2⟩ := hp0
    exact ⟨0, r, by omega, rfl, h1, h2, hb0⟩
  case round =>
    obtain ⟨k, r, hk, rfl, hp, hr, hb⟩ := hrel
    clear hp0 hb0
    by_cases hlt : k < n
    · obtain ⟨b, off, rfl, hbB, hcell⟩ := Dms.addr h (by omega)
      obtain ⟨x, hx⟩ : ∃ x, xs[k]? = some x := ⟨_, List.getElem?_eq_getElem (by rw [HL.out]; exact hlt)⟩
      obtain ⟨c0, c1, c2, c3⟩ := hcell k x hx

      replace c0 := (hb.cell (p := ⟨b, off + k * 4, none⟩) hbB).trans c0
      replace c1 := (hb.cell (p := ⟨b, off + k * 4 + 1, none⟩) hbB).trans c1
      replace c2 := (hb.cell (p := ⟨b, off + k * 4 + 2, none⟩) hbB).trans c2
      replace c3 := (hb.cell (p := ⟨b, off + k * 4 + 3, none⟩) hbB).trans c3
      have hkl : ((xs.take k).flatMap Dm.c).length = k * 4 := flat_tlenD xs k (by rw [HL.out]; omega)
      have HS := Lib.hid (flat_succD xs k x hx)
      obtain ⟨x0, x1, x2, x3, r', rfl⟩ := split_4 (r := r) (by have : 1 * 4 ≤ (n - k) * 4 := Nat.mul_le_mul_right _ (by omega); omega)
      have hr' : r'.length = (n - (k + 1)) * 4 := by
        simp only [List.length_cons] at hr
        have : (n - k) * 4 = (n - (k + 1)) * 4 + 4 := by rw [show n - k = n - (k + 1) + 1 by omega, Nat.add_mul]
        omega
      have HR := Lib.hid hr'
      have hbs := hb.size
      have hpl := hp.lt
      have HKL := Lib.hid hkl
      have hk0 : (0 : Int) ≤ (k : Int) := Int.natCast_nonneg _
      have hk1 : (k : Int) < (n : Int) := by omega
      have e0 : decide (k < n) = true := by simpa using hlt
      clear hcell hx hr hr' hkl
      go_wp2_with fail
      refine (toDemand_any x wr).mono ?_
      rintro e w2 ⟨rfl, hb2⟩
      replace hp := hp.below hb2 hpl
      have hB2 := hb.trans (hb2.mono hbs)

      have g0 : w2.cell? ⟨w.heap.size, k * 4, none⟩ = some x0 := Bk.at_ (pre := ((xs.take k).flatMap Dm.c)) (r := x1 :: x2 :: x3 :: r') (by simpa using hp) (by simp [HKL.out])
      have f0 := hp.frozen (k * 4)
      have g1 : w2.cell? ⟨w.heap.size, k * 4 + 1, none⟩ = some x1 := Bk.at_ (pre := ((xs.take k).flatMap Dm.c) ++ [x0]) (r := x2 :: x3 :: r') (by simpa using hp) (by simp [HKL.out])
      have f1 := hp.frozen (k * 4 + 1)
      have g2 : w2.cell? ⟨w.heap.size, k * 4 + 2, none⟩ = some x2 := Bk.at_ (pre := ((xs.take k).flatMap Dm.c) ++ [x0] ++ [x1]) (r := x3 :: r') (by simpa using hp) (by simp [HKL.out])
      have f2 := hp.frozen (k * 4 + 2)
      have g3 : w2.cell? ⟨w.heap.size, k * 4 + 3, none⟩ = some x3 := Bk.at_ (pre := ((xs.take k).flatMap Dm.c) ++ [x0] ++ [x1] ++ [x2]) (r := r') (by simpa using hp) (by simp [HKL.out])
      have f3 := hp.frozen (k * 4 + 3)
      have q0 : Bk (w2.setCell ⟨w.heap.size, k * 4, none⟩ (.int .i64 x.we)) w.heap.size 46 (((xs.take k).flatMap Dm.c) ++ (.int .i64 x.we) :: x1 :: x2 :: x3 :: r').toArray := Bk.put (pre := ((xs.take k).flatMap Dm.c)) hp HKL.out _
      have q1 : Bk ((w2.setCell ⟨w.heap.size, k * 4, none⟩ (.int .i64 x.we)).setCell ⟨w.heap.size, k * 4 + 1, none⟩ (.int .i64 x.lo)) w.heap.size 46 ((((xs.take k).flatMap Dm.c) ++ ([.int .i64 x.we] : List Value)) ++ (.int .i64 x.lo) :: x2 :: x3 :: r').toArray := Bk.put (pre := ((xs.take k).flatMap Dm.c) ++ ([.int .i64 x.we] : List Value)) (x := x1) (r := x2 :: x3 :: r') (by simpa using q0) (by simp [HKL.out]) _
      have q2 : Bk (((w2.setCell ⟨w.heap.size, k * 4, none⟩ (.int .i64 x.we)).setCell ⟨w.heap.size, k * 4 + 1, none⟩ (.int .i64 x.lo)).setCell ⟨w.heap.size, k * 4 + 2, none⟩ (.int .i64 x.mi)) w.heap.size 46 ((((xs.take k).flatMap Dm.c) ++ ([.int .i64 x.we, .int .i64 x.lo] : List Value)) ++ (.int .i64 x.mi) :: x3 :: r').toArray := Bk.put (pre := ((xs.take k).flatMap Dm.c) ++ ([.int .i64 x.we, .int .i64 x.lo] : List Value)) (x := x2) (r := x3 :: r') (by simpa using q1) (by simp [HKL.out]) _
      have q3 : Bk ((((w2.setCell ⟨w.heap.size, k * 4, none⟩ (.int .i64 x.we)).setCell ⟨w.heap.size, k * 4 + 1, none⟩ (.int .i64 x.lo)).setCell ⟨w.heap.size, k * 4 + 2, none⟩ (.int .i64 x.mi)).setCell ⟨w.heap.size, k * 4 + 3, none⟩ (.int .i64 x.hi)) w.heap.size 46 ((((xs.take k).flatMap Dm.c) ++ ([.int .i64 x.we, .int .i64 x.lo, .int .i64 x.mi] : List Value)) ++ (.int .i64 x.hi) :: r').toArray := Bk.put (pre := ((xs.take k).flatMap Dm.c) ++ ([.int .i64 x.we, .int .i64 x.lo, .int .i64 x.mi] : List Value)) (x := x3) (r := r') (by simpa using q2) (by simp [HKL.out]) _
      have hBF : Below w.heap.size w ((((w2.setCell ⟨w.heap.size, k * 4, none⟩ (.int .i64 x.we)).setCell ⟨w.heap.size, k * 4 + 1, none⟩ (.int .i64 x.lo)).setCell ⟨w.heap.size, k * 4 + 2, none⟩ (.int .i64 x.mi)).setCell ⟨w.heap.size, k * 4 + 3, none⟩ (.int .i64 x.hi)) := by
        repeat (first | with_reducible exact hB2 | refine Below.setCell ?_ (by show w.heap.size ≤ w.heap.size; exact Nat.le_refl _) _)
      have HQ := Lib.hid (show Bk ((((w2.setCell ⟨w.heap.size, k * 4, none⟩ (.int .i64 x.we)).setCell ⟨w.heap.size, k * 4 + 1, none⟩ (.int .i64 x.lo)).setCell ⟨w.heap.size, k * 4 + 2, none⟩ (.int .i64 x.mi)).setCell ⟨w.heap.size, k * 4 + 3, none⟩ (.int .i64 x.hi)) w.heap.size 46 ((xs.take (k + 1)).flatMap Dm.c ++ r').toArray by
        rw [HS.out]
        simpa [Dm.c] using q3)
      clear hp q0 q1 q2 q3 hb2
      go_wp2
      go_roundw
      case rel => exact ⟨k + 1, r', by omega, by go_num, HQ.out, HR.out, hBF⟩
      case measure => simp [intOf]; omega
    · have hkn : k = n := by omega
      subst hkn
      have hr0 : r = [] := List.eq_nil_of_length_eq_zero (by rw [hr]; simp)
      subst hr0
      rw [List.append_nil, List.take_of_length_le (by rw [HL.out]; exact Nat.le_refl _)] at hp
      have HP := Lib.hid hp
      clear hp hr
      go_wp2
      go_ret
      exact ⟨_, rfl, Nat.le_refl _, HP.out, hb⟩

theorem seq_rowD {w : World} {g n : Nat} {xs : List Dm} (h : Bk w g 46 (xs.flatMap Dm.c).toArray) (hn : xs.length = n) : Dms w w.heap.size (some ⟨g, 0, none⟩) n xs :=
  ⟨by rw [flat_lenD, hn], fun _ => ⟨g, 0, rfl, h.lt, fun j u hu => by rw [Nat.zero_add, h.cell j]; simpa using hu⟩⟩
set_option maxHeartbeats 2000000 in
theorem eqDemandS_same (A A' : Option Addr) (n c c' B : Nat) (xs : List Dm) (w : World) (h : Dms w B A n xs) (h' : Dms w B A' n xs) (hB : B ≤ w.heap.size) (hn : n ≤ 1099511627776) :
    Calls Try.prog 18 #[.slice A n c, .slice A' n c'] w fun e w' => e = .returned (.bool true) ∧ Below w.heap.size w w' := by
  have HL := Lib.hid h.len
  have e0 : ((n : Int) != n) = false := by simp
  go_enter Try.func18, Try.ntmps18
  go_wp2
  go_loopw [5] (fun i wr => ∃ k : Nat, k ≤ n ∧ i = .int .i64 k ∧ Below w.heap.size w wr) (fun i _ => n - (intOf i).toNat)
  case atStart => exact ⟨0, by omega, rfl, Below.refl _ _⟩
  case round =>
    obtain ⟨k, hk, rfl, hb⟩ := hrel
    by_cases hlt : k < n
    · obtain ⟨b, off, rfl, hbB, hcell⟩ := Dms.addr h (by omega)
      obtain ⟨b', off', rfl, hbB', hcell'⟩ := Dms.addr h' (by omega)
      obtain ⟨x, hx⟩ : ∃ x, xs[k]? = some x := ⟨_, List.getElem?_eq_getElem (by rw [HL.out]; exact hlt)⟩
      obtain ⟨c0, c1, c2, c3⟩ := hcell k x hx
      obtain ⟨d0, d1, d2, d3⟩ := hcell' k x hx

      replace c0 := (hb.cell (p := ⟨b, off + k * 4, none⟩) (Nat.lt_of_lt_of_le hbB hB)).trans c0
      replace c1 := (hb.cell (p := ⟨b, off + k * 4 + 1, none⟩) (Nat.lt_of_lt_of_le hbB hB)).trans c1
      replace c2 := (hb.cell (p := ⟨b, off + k * 4 + 2, none⟩) (Nat.lt_of_lt_of_le hbB hB)).trans c2
      replace c3 := (hb.cell (p := ⟨b, off + k * 4 + 3, none⟩) (Nat.lt_of_lt_of_le hbB hB)).trans c3
      replace d0 := (hb.cell (p := ⟨b', off' + k * 4, none⟩) (Nat.lt_of_lt_of_le hbB' hB)).trans d0
      replace d1 := (hb.cell (p := ⟨b', off' + k * 4 + 1, none⟩) (Nat.lt_of_lt_of_le hbB' hB)).trans d1
      replace d2 := (hb.cell (p := ⟨b', off' + k * 4 + 2, none⟩) (Nat.lt_of_lt_of_le hbB' hB)).trans d2
      replace d3 := (hb.cell (p := ⟨b', off' + k * 4 + 3, none⟩) (Nat.lt_of_lt_of_le hbB' hB)).trans d3
      have hk0 : (0 : Int) ≤ (k : Int) := Int.natCast_nonneg _
      have hk1 : (k : Int) < (n : Int) := by omega
      have e1 : decide (k < n) = true := by simpa using hlt
      have hbs := hb.size
      clear hcell hcell' hx
      go_wp2_with fail
      refine wp_region_cells [(b, off + k * 4, .int .i64 x.we), (b, off + k * 4 + 1, .int .i64 x.lo), (b, off + k * 4 + 2, .int .i64 x.mi), (b, off + k * 4 + 3, .int .i64 x.hi), (b', off' + k * 4, .int .i64 x.we), (b', off' + k * 4 + 1, .int .i64 x.lo), (b', off' + k * 4 + 2, .int .i64 x.mi), (b', off' + k * 4 + 3, .int .i64 x.hi)] (by kernel_rfl) (by kernel_rfl) ?_ ?_
      · simp only [List.forall_mem_cons]
        exact ⟨by go_simp, by go_simp, by go_simp, by go_simp, by go_simp, by go_simp, by go_simp, by go_simp, by simp⟩
      intro hcs
      simp only [List.forall_mem_cons] at hcs
      obtain ⟨dc0, dc1, dc2, dc3, dc4, dc5, dc6, dc7, -⟩ := hcs
      repeat (any_goals (first | go_big_quiet_step ((go_at_call 36; exact BW.calls (Nat.le_refl _) _ (eqDemand_same x _))) | quiet_step ((go_at_call 36; exact BW.calls (Nat.le_refl _) _ (eqDemand_same x _)))))
      refine wpQuiet_nil ?_
      intro _ hw'
      obtain ⟨xw, hw''⟩ := hw'
      subst hw''
      have hbw := xw.2
      clear dc0 dc1 dc2 dc3 dc4 dc5 dc6 dc7
      generalize xw.1 = ww at hbw ⊢
      clear xw
      obtain ⟨kw, fw⟩ := bcell hbw
      have sw := hbw.size
      have hB2 := hb.trans (hbw.mono hbs)
      go_wp2
      go_roundw
      case rel => exact ⟨k + 1, by omega, by go_num, hB2⟩
      case measure => simp [intOf]; omega
    · go_wp2
      go_ret
      exact ⟨rfl, hb⟩

/-- The marks of the first n elements, from k0 on. -/
def mk1D (k0 : Int) (i : Nat) : List Value := [.int .i64 (k0 + (i : Int) * 4), .int .i64 (k0 + (i : Int) * 4 + 1), .int .i64 (k0 + (i : Int) * 4 + 1 + 1), .int .i64 (k0 + (i : Int) * 4 + 1 + 1 + 1)]
def mksD (k0 : Int) (n : Nat) : List Value := (List.range n).flatMap (mk1D k0)
theorem mks_succD (k0 : Int) (n : Nat) : mksD k0 (n + 1) = mksD k0 n ++ mk1D k0 n := by simp [mksD, List.range_succ]
theorem mks_lenD (k0 : Int) (n : Nat) : (mksD k0 n).length = n * 4 := by
  induction n with
  | zero => rfl
  | succ n ih => rw [mks_succD, List.length_append, ih]; simp [mk1D]; omega
set_option maxHeartbeats 2000000 in
theorem markDemandS_any (A : Option Addr) (g n c : Nat) (cs : List Value) (k0 : Int) (w : World) (h : 0 < n → A = some ⟨g, 0, none⟩ ∧ Bk w g 46 cs.toArray ∧ n * 4 ≤ cs.length) (hc : n ≤ 2097152) (hk : 0 ≤ k0) (hk' : k0 ≤ 1099511627776) :
    Calls Try.prog 28 #[.slice A n c, .int .i64 k0] w fun e w' => e = .returned (.int .i64 (k0 + n * 4)) ∧ (0 < n → ∃ r, Bk w' g 46 (mksD k0 n ++ r).toArray) ∧ But (fun k => k = g ∧ 0 < n) w w' := by
  go_enter Try.func28, Try.ntmps28
  go_wp2
  go_loopw [1, 5] (fun z i wr => ∃ k : Nat, k ≤ n ∧ i = .int .i64 k ∧ z = .int .i64 (k0 + (k : Int) * 4) ∧ (0 < n → ∃ r, Bk wr g 46 (mksD k0 k ++ r).toArray ∧ (n - k) * 4 ≤ r.length) ∧ But (fun k => k = g ∧ 0 < n) w wr) (fun _ i _ => n - (intOf i).toNat)
  case atStart => exact ⟨0, by omega, rfl, by simp, fun hn => ⟨cs, by simpa [mksD] using (h hn).2.1, by simpa using (h hn).2.2⟩, But.refl _ _⟩
  case round =>
    obtain ⟨k, hk2, rfl, rfl, hp, hb⟩ := hrel
    have hk0 : (0 : Int) ≤ (k : Int) := Int.natCast_nonneg _
    by_cases hlt : k < n
    · obtain ⟨rfl, -, -⟩ := h (by omega)
      obtain ⟨r, hp, hr⟩ := hp (by omega)
      obtain ⟨x0, x1, x2, x3, r', rfl⟩ := split_4 (r := r) (by have : 1 * 4 ≤ (n - k) * 4 := Nat.mul_le_mul_right _ (by omega); omega)
      have HR := Lib.hid (show (n - (k + 1)) * 4 ≤ r'.length by
        simp only [List.length_cons] at hr
        have : (n - k) * 4 = (n - (k + 1)) * 4 + 4 := by rw [show n - k = n - (k + 1) + 1 by omega, Nat.add_mul]
        omega)
      have HKL := Lib.hid (mks_lenD k0 k)
      have hk1 : (k : Int) < (n : Int) := by omega
      have e0 : decide (k < n) = true := by simpa using hlt
      have HS := Lib.hid (mks_succD k0 k)
      have hz1 : k0 + (k : Int) * 4 ≤ 1099511627776 + 2097152 * 4 := by omega
      have hz0 : 0 ≤ k0 + (k : Int) * 4 := by omega
      have hz2 : IntKind.i64.wrap (k0 + (k : Int) * 4) = k0 + (k : Int) * 4 := by rw [IntKind.wrap_i64]; omega
      clear hr

      have g0 : wr.cell? ⟨g, k * 4, none⟩ = some x0 := Bk.at_ (pre := (mksD k0 k)) (r := x1 :: x2 :: x3 :: r') (by simpa using hp) (by simp [HKL.out])
      have f0 := hp.frozen (k * 4)
      have g1 : wr.cell? ⟨g, k * 4 + 1, none⟩ = some x1 := Bk.at_ (pre := (mksD k0 k) ++ [x0]) (r := x2 :: x3 :: r') (by simpa using hp) (by simp [HKL.out])
      have f1 := hp.frozen (k * 4 + 1)
      have g2 : wr.cell? ⟨g, k * 4 + 2, none⟩ = some x2 := Bk.at_ (pre := (mksD k0 k) ++ [x0] ++ [x1]) (r := x3 :: r') (by simpa using hp) (by simp [HKL.out])
      have f2 := hp.frozen (k * 4 + 2)
      have g3 : wr.cell? ⟨g, k * 4 + 3, none⟩ = some x3 := Bk.at_ (pre := (mksD k0 k) ++ [x0] ++ [x1] ++ [x2]) (r := r') (by simpa using hp) (by simp [HKL.out])
      have f3 := hp.frozen (k * 4 + 3)
      generalize hzz : k0 + (k : Int) * 4 = z at *
      have HZ := Lib.hid hzz
      clear hzz hz2
      have q0 : Bk (wr.setCell ⟨g, k * 4, none⟩ (.int .i64 (z))) g 46 ((mksD k0 k) ++ (.int .i64 (z)) :: x1 :: x2 :: x3 :: r').toArray := Bk.put (pre := (mksD k0 k)) hp HKL.out _
      have q1 : Bk ((wr.setCell ⟨g, k * 4, none⟩ (.int .i64 (z))).setCell ⟨g, k * 4 + 1, none⟩ (.int .i64 (z + 1))) g 46 (((mksD k0 k) ++ ([.int .i64 (z)] : List Value)) ++ (.int .i64 (z + 1)) :: x2 :: x3 :: r').toArray := Bk.put (pre := (mksD k0 k) ++ ([.int .i64 (z)] : List Value)) (x := x1) (r := x2 :: x3 :: r') (by simpa using q0) (by simp [HKL.out]) _
      have q2 : Bk (((wr.setCell ⟨g, k * 4, none⟩ (.int .i64 (z))).setCell ⟨g, k * 4 + 1, none⟩ (.int .i64 (z + 1))).setCell ⟨g, k * 4 + 2, none⟩ (.int .i64 (z + 1 + 1))) g 46 (((mksD k0 k) ++ ([.int .i64 (z), .int .i64 (z + 1)] : List Value)) ++ (.int .i64 (z + 1 + 1)) :: x3 :: r').toArray := Bk.put (pre := (mksD k0 k) ++ ([.int .i64 (z), .int .i64 (z + 1)] : List Value)) (x := x2) (r := x3 :: r') (by simpa using q1) (by simp [HKL.out]) _
      have q3 : Bk ((((wr.setCell ⟨g, k * 4, none⟩ (.int .i64 (z))).setCell ⟨g, k * 4 + 1, none⟩ (.int .i64 (z + 1))).setCell ⟨g, k * 4 + 2, none⟩ (.int .i64 (z + 1 + 1))).setCell ⟨g, k * 4 + 3, none⟩ (.int .i64 (z + 1 + 1 + 1))) g 46 (((mksD k0 k) ++ ([.int .i64 (z), .int .i64 (z + 1), .int .i64 (z + 1 + 1)] : List Value)) ++ (.int .i64 (z + 1 + 1 + 1)) :: r').toArray := Bk.put (pre := (mksD k0 k) ++ ([.int .i64 (z), .int .i64 (z + 1), .int .i64 (z + 1 + 1)] : List Value)) (x := x3) (r := r') (by simpa using q2) (by simp [HKL.out]) _
      have hg0 : 0 < n := by omega
      have hBF : But (fun k => k = g ∧ 0 < n) w ((((wr.setCell ⟨g, k * 4, none⟩ (.int .i64 (z))).setCell ⟨g, k * 4 + 1, none⟩ (.int .i64 (z + 1))).setCell ⟨g, k * 4 + 2, none⟩ (.int .i64 (z + 1 + 1))).setCell ⟨g, k * 4 + 3, none⟩ (.int .i64 (z + 1 + 1 + 1))) := by
        repeat (first | with_reducible exact hb | refine But.setCell ?_ (.inl ⟨rfl, hg0⟩) _)
      have HQ := Lib.hid (show Bk ((((wr.setCell ⟨g, k * 4, none⟩ (.int .i64 (z))).setCell ⟨g, k * 4 + 1, none⟩ (.int .i64 (z + 1))).setCell ⟨g, k * 4 + 2, none⟩ (.int .i64 (z + 1 + 1))).setCell ⟨g, k * 4 + 3, none⟩ (.int .i64 (z + 1 + 1 + 1))) g 46 (mksD k0 (k + 1) ++ r').toArray by
        rw [HS.out]
        simpa [mk1D, HZ.out] using q3)
      have HB := Lib.hid hBF
      clear hp hb hBF q0 q1 q2 q3
      go_wp2
      go_roundw
      case rel => exact ⟨k + 1, by omega, by go_num, by rw [← HZ.out]; go_num, fun _ => ⟨r', HQ.out, HR.out⟩, HB.out⟩
      case measure => simp [intOf]; omega
    · have hkn : k = n := by omega
      subst hkn
      have HP := Lib.hid hp
      clear hp
      go_wp2
      go_ret
      exact ⟨rfl, fun hn => by obtain ⟨r, h1, _⟩ := HP.out hn; exact ⟨r, h1⟩, hb⟩

end Go.Proofs.Ythkoafcbcnobhaa
