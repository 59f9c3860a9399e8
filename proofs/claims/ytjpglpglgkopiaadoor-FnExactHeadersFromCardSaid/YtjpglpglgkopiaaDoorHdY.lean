/-
  Slices of Packet: copies, what is equal, marks; both mirrors.
  Conditions: the slices' memory and lengths, as each theorem states them.
-/
import Derived.Test.YtjpglpglgkopiaaDoorRows
import Derived.Test.YtjpglpglgkopiaaDoorLib
import Derived.Test.YtjpglpglgkopiaaDoorOwn
import Derived.Test.YtjpglpglgkopiaaDoorBut
import Derived.Test.YtjpglpglgkopiaaDoorBasP
import Derived.Outline
namespace Go.Proofs.YtjpglpglgkopiaaDoor
open Go.RowKit
set_option linter.unusedVariables false
set_option linter.unusedSimpArgs false

theorem Bk.put {w : World} {g o : Nat} {T : TypeId} {pre r : List Value} {x : Value} (h : Bk w g T (pre ++ x :: r).toArray) (ho : pre.length = o) (v : Value) : Bk (w.setCell ⟨g, o, none⟩ v) g T (pre ++ v :: r).toArray := by
  have h1 := h.set_ o v
  subst ho
  have e : (pre ++ x :: r).set pre.length v = pre ++ v :: r := by simp [List.set_append]
  rw [List.setIfInBounds_toArray, e] at h1
  exact h1
theorem Bk.at_ {w : World} {g o : Nat} {T : TypeId} {pre r : List Value} {x : Value} (h : Bk w g T (pre ++ x :: r).toArray) (ho : pre.length = o) : w.cell? ⟨g, o, none⟩ = some x := by
  rw [h.cell o]
  subst ho
  simp
theorem split_6 {r : List Value} (h : 6 ≤ r.length) : ∃ x0 x1 x2 x3 x4 x5 r', r = x0 :: x1 :: x2 :: x3 :: x4 :: x5 :: r' := by
  match r, h with
  | x0 :: x1 :: x2 :: x3 :: x4 :: x5 :: r', _ => exact ⟨x0, x1, x2, x3, x4, x5, r', rfl⟩

theorem flat_succP (xs : List Pk) (k : Nat) (x : Pk) (h : xs[k]? = some x) : (xs.take (k + 1)).flatMap Pk.c = (xs.take k).flatMap Pk.c ++ x.c := by
  have hlt := (List.getElem?_eq_some_iff.1 h).1
  have hx := (List.getElem?_eq_some_iff.1 h).2
  rw [List.take_succ_eq_append_getElem hlt, hx]
  simp
theorem flat_tlenP (xs : List Pk) (k : Nat) (h : k ≤ xs.length) : ((xs.take k).flatMap Pk.c).length = k * 6 := by
  rw [flat_lenP, List.length_take]
  rw [Nat.min_eq_left h]

set_option maxHeartbeats 1000000 in
theorem eqPacket_same (x : Pk) (w : World) : Calls Tryd.prog 15 #[.agg #[.int .i64 x.wi, .int .i64 x.ti, .int .i64 x.la, .int .i64 x.si, .bool x.ky, .bool x.en], .agg #[.int .i64 x.wi, .int .i64 x.ti, .int .i64 x.la, .int .i64 x.si, .bool x.ky, .bool x.en]] w fun e w' => e = .returned (.bool true) ∧ Below w.heap.size w w' := by
  go_enter Tryd.func15, Tryd.ntmps15
  go_wp2
  go_ret
  exact ⟨rfl, (by repeat (first | exact Below.refl _ _ | assumption | refine Below.setCell ?_ (by first | omega | (simp; done) | (simp; omega)) _ | refine Below.alloc ?_ (by first | omega | (simp; done) | (simp; omega)) _ | refine Below.drew ?_ | refine Below.drewN' ?_ _ | refine Below.trans ?_ (Below.mono (by assumption) (by first | omega | (simp; done) | (simp; omega)))))⟩

theorem info_P : (Tryd.prog.info? 24).map (fun i => (i.zero, i.size, i.bytes)) = some (some (.agg #[.int .i64 0, .int .i64 0, .int .i64 0, .int .i64 0, .bool false, .bool false]), 6, 40) := by kernel_rfl
theorem seq_rowP {w : World} {g n : Nat} {xs : List Pk} (h : Bk w g 24 (xs.flatMap Pk.c).toArray) (hn : xs.length = n) : Pks w w.heap.size (some ⟨g, 0, none⟩) n xs :=
  ⟨by rw [flat_lenP, hn], fun _ => ⟨g, 0, rfl, h.lt, fun j u hu => by rw [Nat.zero_add, h.cell j]; simpa using hu⟩⟩
set_option maxHeartbeats 2000000 in
theorem eqPacketS_same (A A' : Option Addr) (n c c' B : Nat) (xs : List Pk) (w : World) (h : Pks w B A n xs) (h' : Pks w B A' n xs) (hB : B ≤ w.heap.size) (hn : n ≤ 1099511627776) :
    Calls Tryd.prog 30 #[.slice A n c, .slice A' n c'] w fun e w' => e = .returned (.bool true) ∧ Below w.heap.size w w' := by
  have HL := Lib.hid h.len
  have e0 : ((n : Int) != n) = false := by simp
  go_enter Tryd.func30, Tryd.ntmps30
  go_wp2
  go_loopw [5] (fun i wr => ∃ k : Nat, k ≤ n ∧ i = .int .i64 k ∧ Below w.heap.size w wr) (fun i _ => n - (intOf i).toNat)
  case atStart => exact ⟨0, by omega, rfl, Below.refl _ _⟩
  case round =>
    obtain ⟨k, hk, rfl, hb⟩ := hrel
    by_cases hlt : k < n
    · obtain ⟨b, off, rfl, hbB, hcell⟩ := Pks.addr h (by omega)
      obtain ⟨b', off', rfl, hbB', hcell'⟩ := Pks.addr h' (by omega)
      obtain ⟨x, hx⟩ : ∃ x, xs[k]? = some x := ⟨_, List.getElem?_eq_getElem (by rw [HL.out]; exact hlt)⟩
      obtain ⟨c0, c1, c2, c3, c4, c5⟩ := hcell k x hx
      obtain ⟨d0, d1, d2, d3, d4, d5⟩ := hcell' k x hx

      replace c0 := (hb.cell (p := ⟨b, off + k * 6, none⟩) (Nat.lt_of_lt_of_le hbB hB)).trans c0
      replace c1 := (hb.cell (p := ⟨b, off + k * 6 + 1, none⟩) (Nat.lt_of_lt_of_le hbB hB)).trans c1
      replace c2 := (hb.cell (p := ⟨b, off + k * 6 + 2, none⟩) (Nat.lt_of_lt_of_le hbB hB)).trans c2
      replace c3 := (hb.cell (p := ⟨b, off + k * 6 + 3, none⟩) (Nat.lt_of_lt_of_le hbB hB)).trans c3
      replace c4 := (hb.cell (p := ⟨b, off + k * 6 + 4, none⟩) (Nat.lt_of_lt_of_le hbB hB)).trans c4
      replace c5 := (hb.cell (p := ⟨b, off + k * 6 + 5, none⟩) (Nat.lt_of_lt_of_le hbB hB)).trans c5
      replace d0 := (hb.cell (p := ⟨b', off' + k * 6, none⟩) (Nat.lt_of_lt_of_le hbB' hB)).trans d0
      replace d1 := (hb.cell (p := ⟨b', off' + k * 6 + 1, none⟩) (Nat.lt_of_lt_of_le hbB' hB)).trans d1
      replace d2 := (hb.cell (p := ⟨b', off' + k * 6 + 2, none⟩) (Nat.lt_of_lt_of_le hbB' hB)).trans d2
      replace d3 := (hb.cell (p := ⟨b', off' + k * 6 + 3, none⟩) (Nat.lt_of_lt_of_le hbB' hB)).trans d3
      replace d4 := (hb.cell (p := ⟨b', off' + k * 6 + 4, none⟩) (Nat.lt_of_lt_of_le hbB' hB)).trans d4
      replace d5 := (hb.cell (p := ⟨b', off' + k * 6 + 5, none⟩) (Nat.lt_of_lt_of_le hbB' hB)).trans d5
      have hk0 : (0 : Int) ≤ (k : Int) := Int.natCast_nonneg _
      have hk1 : (k : Int) < (n : Int) := by omega
      have e1 : decide (k < n) = true := by simpa using hlt
      have hbs := hb.size
      clear hcell hcell' hx
      go_wp2_with fail
      refine wp_region_cells [(b, off + k * 6, .int .i64 x.wi), (b, off + k * 6 + 1, .int .i64 x.ti), (b, off + k * 6 + 2, .int .i64 x.la), (b, off + k * 6 + 3, .int .i64 x.si), (b, off + k * 6 + 4, .bool x.ky), (b, off + k * 6 + 5, .bool x.en), (b', off' + k * 6, .int .i64 x.wi), (b', off' + k * 6 + 1, .int .i64 x.ti), (b', off' + k * 6 + 2, .int .i64 x.la), (b', off' + k * 6 + 3, .int .i64 x.si), (b', off' + k * 6 + 4, .bool x.ky), (b', off' + k * 6 + 5, .bool x.en)] (by kernel_rfl) (by kernel_rfl) ?_ ?_
      · simp only [List.forall_mem_cons]
        exact ⟨by go_simp, by go_simp, by go_simp, by go_simp, by go_simp, by go_simp, by go_simp, by go_simp, by go_simp, by go_simp, by go_simp, by go_simp, by simp⟩
      intro hcs
      simp only [List.forall_mem_cons] at hcs
      obtain ⟨dc0, dc1, dc2, dc3, dc4, dc5, dc6, dc7, dc8, dc9, dc10, dc11, -⟩ := hcs
      repeat (any_goals (first | go_big_quiet_step ((go_at_call 15; exact BW.calls (Nat.le_refl _) _ (eqPacket_same x _))) | quiet_step ((go_at_call 15; exact BW.calls (Nat.le_refl _) _ (eqPacket_same x _)))))
      refine wpQuiet_nil ?_
      intro _ hw'
      obtain ⟨xw, hw''⟩ := hw'
      subst hw''
      have hbw := xw.2
      clear dc0 dc1 dc2 dc3 dc4 dc5 dc6 dc7 dc8 dc9 dc10 dc11
      generalize xw.1 = ww at hbw ⊢
      clear xw
      obtain ⟨kw, fw⟩ := bcell hbw
      have sw := hbw.size
      have hB2 := hb.trans (hbw.mono hbs)
      go_wp2
      go_roundw
      case rel => exact ⟨k + 1, by omega, by go_num, hB2⟩
      case measure => simp [intOf]; omega
    · go_wp2
      go_ret
      exact ⟨rfl, hb⟩

/-- The marks of the first n elements, from k0 on. -/
def mk1P (k0 : Int) (i : Nat) : List Value := [.int .i64 (k0 + (i : Int) * 6), .int .i64 (k0 + (i : Int) * 6 + 1), .int .i64 (k0 + (i : Int) * 6 + 1 + 1), .int .i64 (k0 + (i : Int) * 6 + 1 + 1 + 1), .bool ((k0 + (i : Int) * 6 + 1 + 1 + 1 + 1) % 3 == 0), .bool ((k0 + (i : Int) * 6 + 1 + 1 + 1 + 1 + 1) % 3 == 0)]
def mksP (k0 : Int) (n : Nat) : List Value := (List.range n).flatMap (mk1P k0)
theorem mks_succP (k0 : Int) (n : Nat) : mksP k0 (n + 1) = mksP k0 n ++ mk1P k0 n := by simp [mksP, List.range_succ]
theorem mks_lenP (k0 : Int) (n : Nat) : (mksP k0 n).length = n * 6 := by
  induction n with
  | zero => rfl
  | succ n ih => rw [mks_succP, List.length_append, ih]; simp [mk1P]; omega
set_option maxHeartbeats 2000000 in
theorem markPacketS_any (A : Option Addr) (g n c : Nat) (cs : List Value) (k0 : Int) (w : World) (h : 0 < n → A = some ⟨g, 0, none⟩ ∧ Bk w g 24 cs.toArray ∧ n * 6 ≤ cs.length) (hc : n ≤ 2097152) (hk : 0 ≤ k0) (hk' : k0 ≤ 1099511627776) :
    Calls Tryd.prog 32 #[.slice A n c, .int .i64 k0] w fun e w' => e = .returned (.int .i64 (k0 + n * 6)) ∧ (0 < n → ∃ r, Bk w' g 24 (mksP k0 n ++ r).toArray) ∧ But (fun k => k = g ∧ 0 < n) w w' := by
  go_enter Tryd.func32, Tryd.ntmps32
  go_wp2
  go_loopw [1, 5] (fun z i wr => ∃ k : Nat, k ≤ n ∧ i = .int .i64 k ∧ z = .int .i64 (k0 + (k : Int) * 6) ∧ (0 < n → ∃ r, Bk wr g 24 (mksP k0 k ++ r).toArray ∧ (n - k) * 6 ≤ r.length) ∧ But (fun k => k = g ∧ 0 < n) w wr) (fun _ i _ => n - (intOf i).toNat)
  case atStart => exact ⟨0, by omega, rfl, by simp, fun hn => ⟨cs, by simpa [mksP] using (h hn).2.1, by simpa using (h hn).2.2⟩, But.refl _ _⟩
  case round =>
    obtain ⟨k, hk2, rfl, rfl, hp, hb⟩ := hrel
    have hk0 : (0 : Int) ≤ (k : Int) := Int.natCast_nonneg _
    by_cases hlt : k < n
    · obtain ⟨rfl, -, -⟩ := h (by omega)
      obtain ⟨r, hp, hr⟩ := hp (by omega)
      obtain ⟨x0, x1, x2, x3, x4, x5, r', rfl⟩ := split_6 (r := r) (by have : 1 * 6 ≤ (n - k) * 6 := Nat.mul_le_mul_right _ (by omega); omega)
      have HR := Lib.hid (show (n - (k + 1)) * 6 ≤ r'.length by
        simp only [List.length_cons] at hr
        have : (n - k) * 6 = (n - (k + 1)) * 6 + 6 := by rw [show n - k = n - (k + 1) + 1 by omega, Nat.add_mul]
        omega)
      have HKL := Lib.hid (mks_lenP k0 k)
      have hk1 : (k : Int) < (n : Int) := by omega
      have e0 : decide (k < n) = true := by simpa using hlt
      have HS := Lib.hid (mks_succP k0 k)
      have hz1 : k0 + (k : Int) * 6 ≤ 1099511627776 + 2097152 * 6 := by omega
      have hz0 : 0 ≤ k0 + (k : Int) * 6 := by omega
      have hz2 : IntKind.i64.wrap (k0 + (k : Int) * 6) = k0 + (k : Int) * 6 := by rw [IntKind.wrap_i64]; omega
      clear hr

      have g0 : wr.cell? ⟨g, k * 6, none⟩ = some x0 := Bk.at_ (pre := (mksP k0 k)) (r := x1 :: x2 :: x3 :: x4 :: x5 :: r') (by simpa using hp) (by simp [HKL.out])
      have f0 := hp.frozen (k * 6)
      have g1 : wr.cell? ⟨g, k * 6 + 1, none⟩ = some x1 := Bk.at_ (pre := (mksP k0 k) ++ [x0]) (r := x2 :: x3 :: x4 :: x5 :: r') (by simpa using hp) (by simp [HKL.out])
      have f1 := hp.frozen (k * 6 + 1)
      have g2 : wr.cell? ⟨g, k * 6 + 2, none⟩ = some x2 := Bk.at_ (pre := (mksP k0 k) ++ [x0] ++ [x1]) (r := x3 :: x4 :: x5 :: r') (by simpa using hp) (by simp [HKL.out])
      have f2 := hp.frozen (k * 6 + 2)
      have g3 : wr.cell? ⟨g, k * 6 + 3, none⟩ = some x3 := Bk.at_ (pre := (mksP k0 k) ++ [x0] ++ [x1] ++ [x2]) (r := x4 :: x5 :: r') (by simpa using hp) (by simp [HKL.out])
      have f3 := hp.frozen (k * 6 + 3)
      have g4 : wr.cell? ⟨g, k * 6 + 4, none⟩ = some x4 := Bk.at_ (pre := (mksP k0 k) ++ [x0] ++ [x1] ++ [x2] ++ [x3]) (r := x5 :: r') (by simpa using hp) (by simp [HKL.out])
      have f4 := hp.frozen (k * 6 + 4)
      have g5 : wr.cell? ⟨g, k * 6 + 5, none⟩ = some x5 := Bk.at_ (pre := (mksP k0 k) ++ [x0] ++ [x1] ++ [x2] ++ [x3] ++ [x4]) (r := r') (by simpa using hp) (by simp [HKL.out])
      have f5 := hp.frozen (k * 6 + 5)
      generalize hzz : k0 + (k : Int) * 6 = z at *
      have HZ := Lib.hid hzz
      clear hzz hz2
      have q0 : Bk (wr.setCell ⟨g, k * 6, none⟩ (.int .i64 (z))) g 24 ((mksP k0 k) ++ (.int .i64 (z)) :: x1 :: x2 :: x3 :: x4 :: x5 :: r').toArray := Bk.put (pre := (mksP k0 k)) hp HKL.out _
      have q1 : Bk ((wr.setCell ⟨g, k * 6, none⟩ (.int .i64 (z))).setCell ⟨g, k * 6 + 1, none⟩ (.int .i64 (z + 1))) g 24 (((mksP k0 k) ++ ([.int .i64 (z)] : List Value)) ++ (.int .i64 (z + 1)) :: x2 :: x3 :: x4 :: x5 :: r').toArray := Bk.put (pre := (mksP k0 k) ++ ([.int .i64 (z)] : List Value)) (x := x1) (r := x2 :: x3 :: x4 :: x5 :: r') (by simpa using q0) (by simp [HKL.out]) _
      have q2 : Bk (((wr.setCell ⟨g, k * 6, none⟩ (.int .i64 (z))).setCell ⟨g, k * 6 + 1, none⟩ (.int .i64 (z + 1))).setCell ⟨g, k * 6 + 2, none⟩ (.int .i64 (z + 1 + 1))) g 24 (((mksP k0 k) ++ ([.int .i64 (z), .int .i64 (z + 1)] : List Value)) ++ (.int .i64 (z + 1 + 1)) :: x3 :: x4 :: x5 :: r').toArray := Bk.put (pre := (mksP k0 k) ++ ([.int .i64 (z), .int .i64 (z + 1)] : List Value)) (x := x2) (r := x3 :: x4 :: x5 :: r') (by simpa using q1) (by simp [HKL.out]) _
      have q3 : Bk ((((wr.setCell ⟨g, k * 6, none⟩ (.int .i64 (z))).setCell ⟨g, k * 6 + 1, none⟩ (.int .i64 (z + 1))).setCell ⟨g, k * 6 + 2, none⟩ (.int .i64 (z + 1 + 1))).setCell ⟨g, k * 6 + 3, none⟩ (.int .i64 (z + 1 + 1 + 1))) g 24 (((mksP k0 k) ++ ([.int .i64 (z), .int .i64 (z + 1), .int .i64 (z + 1 + 1)] : List Value)) ++ (.int .i64 (z + 1 + 1 + 1)) :: x4 :: x5 :: r').toArray := Bk.put (pre := (mksP k0 k) ++ ([.int .i64 (z), .int .i64 (z + 1), .int .i64 (z + 1 + 1)] : List Value)) (x := x3) (r := x4 :: x5 :: r') (by simpa using q2) (by simp [HKL.out]) _
      have q4 : Bk (((((wr.setCell ⟨g, k * 6, none⟩ (.int .i64 (z))).setCell ⟨g, k * 6 + 1, none⟩ (.int .i64 (z + 1))).setCell ⟨g, k * 6 + 2, none⟩ (.int .i64 (z + 1 + 1))).setCell ⟨g, k * 6 + 3, none⟩ (.int .i64 (z + 1 + 1 + 1))).setCell ⟨g, k * 6 + 4, none⟩ (.bool ((z + 1 + 1 + 1 + 1) % 3 == 0))) g 24 (((mksP k0 k) ++ ([.int .i64 (z), .int .i64 (z + 1), .int .i64 (z + 1 + 1), .int .i64 (z + 1 + 1 + 1)] : List Value)) ++ (.bool ((z + 1 + 1 + 1 + 1) % 3 == 0)) :: x5 :: r').toArray := Bk.put (pre := (mksP k0 k) ++ ([.int .i64 (z), .int .i64 (z + 1), .int .i64 (z + 1 + 1), .int .i64 (z + 1 + 1 + 1)] : List Value)) (x := x4) (r := x5 :: r') (by simpa using q3) (by simp [HKL.out]) _
      have q5 : Bk ((((((wr.setCell ⟨g, k * 6, none⟩ (.int .i64 (z))).setCell ⟨g, k * 6 + 1, none⟩ (.int .i64 (z + 1))).setCell ⟨g, k * 6 + 2, none⟩ (.int .i64 (z + 1 + 1))).setCell ⟨g, k * 6 + 3, none⟩ (.int .i64 (z + 1 + 1 + 1))).setCell ⟨g, k * 6 + 4, none⟩ (.bool ((z + 1 + 1 + 1 + 1) % 3 == 0))).setCell ⟨g, k * 6 + 5, none⟩ (.bool ((z + 1 + 1 + 1 + 1 + 1) % 3 == 0))) g 24 (((mksP k0 k) ++ ([.int .i64 (z), .int .i64 (z + 1), .int .i64 (z + 1 + 1), .int .i64 (z + 1 + 1 + 1), .bool ((z + 1 + 1 + 1 + 1) % 3 == 0)] : List Value)) ++ (.bool ((z + 1 + 1 + 1 + 1 + 1) % 3 == 0)) :: r').toArray := Bk.put (pre := (mksP k0 k) ++ ([.int .i64 (z), .int .i64 (z + 1), .int .i64 (z + 1 + 1), .int .i64 (z + 1 + 1 + 1), .bool ((z + 1 + 1 + 1 + 1) % 3 == 0)] : List Value)) (x := x5) (r := r') (by simpa using q4) (by simp [HKL.out]) _
      have hg0 : 0 < n := by omega
      have hBF : But (fun k => k = g ∧ 0 < n) w ((((((wr.setCell ⟨g, k * 6, none⟩ (.int .i64 (z))).setCell ⟨g, k * 6 + 1, none⟩ (.int .i64 (z + 1))).setCell ⟨g, k * 6 + 2, none⟩ (.int .i64 (z + 1 + 1))).setCell ⟨g, k * 6 + 3, none⟩ (.int .i64 (z + 1 + 1 + 1))).setCell ⟨g, k * 6 + 4, none⟩ (.bool ((z + 1 + 1 + 1 + 1) % 3 == 0))).setCell ⟨g, k * 6 + 5, none⟩ (.bool ((z + 1 + 1 + 1 + 1 + 1) % 3 == 0))) := by
        repeat (first | with_reducible exact hb | refine But.setCell ?_ (.inl ⟨rfl, hg0⟩) _)
      have HQ := Lib.hid (show Bk ((((((wr.setCell ⟨g, k * 6, none⟩ (.int .i64 (z))).setCell ⟨g, k * 6 + 1, none⟩ (.int .i64 (z + 1))).setCell ⟨g, k * 6 + 2, none⟩ (.int .i64 (z + 1 + 1))).setCell ⟨g, k * 6 + 3, none⟩ (.int .i64 (z + 1 + 1 + 1))).setCell ⟨g, k * 6 + 4, none⟩ (.bool ((z + 1 + 1 + 1 + 1) % 3 == 0))).setCell ⟨g, k * 6 + 5, none⟩ (.bool ((z + 1 + 1 + 1 + 1 + 1) % 3 == 0))) g 24 (mksP k0 (k + 1) ++ r').toArray by
        rw [HS.out]
        simpa [mk1P, HZ.out] using q5)
      have HB := Lib.hid hBF
      clear hp hb hBF q0 q1 q2 q3 q4 q5
      go_wp2
      go_roundw
      case rel => exact ⟨k + 1, by omega, by go_num, by rw [← HZ.out]; go_num, fun _ => ⟨r', HQ.out, HR.out⟩, HB.out⟩
      case measure => simp [intOf]; omega
    · have hkn : k = n := by omega
      subst hkn
      have HP := Lib.hid hp
      clear hp
      go_wp2
      go_ret
      exact ⟨rfl, fun hn => by obtain ⟨r, h1, _⟩ := HP.out hn; exact ⟨r, h1⟩, hb⟩

set_option maxHeartbeats 2000000 in
theorem heldPacketS_any (A : Option Addr) (g n c : Nat) (r : List Value) (k0 : Int) (w : World) (h : 0 < n → A = some ⟨g, 0, none⟩ ∧ Bk w g 24 (mksP k0 n ++ r).toArray) (hc : n ≤ 2097152) (hk : 0 ≤ k0) (hk' : k0 ≤ 1099511627776) :
    Calls Tryd.prog 33 #[.slice A n c, .int .i64 k0] w fun e w' => e = .returned (.int .i64 (k0 + n * 6)) ∧ w = w' := by
  go_enter Tryd.func33, Tryd.ntmps33
  go_wp2
  go_loop [1, 5] (fun z i => ∃ k : Nat, k ≤ n ∧ i = .int .i64 k ∧ z = .int .i64 (k0 + (k : Int) * 6)) (fun _ i => n - (intOf i).toNat)
  case atStart => exact ⟨0, by omega, rfl, by simp⟩
  case round =>
    obtain ⟨k, hk2, rfl, rfl⟩ := hrel
    have hk0 : (0 : Int) ≤ (k : Int) := Int.natCast_nonneg _
    by_cases hlt : k < n
    · obtain ⟨rfl, hp⟩ := h (by omega)
      have hsplit : ∃ r', mksP k0 n ++ r = mksP k0 k ++ mk1P k0 k ++ r' := by
        have hle : k + 1 ≤ n := hlt
        refine ⟨(mksP k0 n).drop ((k + 1) * 6) ++ r, ?_⟩
        have h1 : mksP k0 n = mksP k0 (k + 1) ++ (mksP k0 n).drop ((k + 1) * 6) := by
          obtain ⟨d, rfl⟩ := Nat.exists_eq_add_of_le hle
          have h2 : mksP k0 (k + 1 + d) = mksP k0 (k + 1) ++ ((List.range d).map (k + 1 + ·)).flatMap (mk1P k0) := by
            unfold mksP
            rw [List.range_add, List.flatMap_append]
          rw [h2, List.drop_left' (mks_lenP k0 (k + 1))]
        rw [← mks_succP, ← List.append_assoc, ← h1]
      obtain ⟨r', hs⟩ := hsplit
      rw [hs] at hp
      have HKL := Lib.hid (mks_lenP k0 k)
      have hk1 : (k : Int) < (n : Int) := by omega
      have e0 : decide (k < n) = true := by simpa using hlt
      have hz1 : k0 + (k : Int) * 6 ≤ 1099511627776 + 2097152 * 6 := by omega
      have hz0 : 0 ≤ k0 + (k : Int) * 6 := by omega
      generalize hzz : k0 + (k : Int) * 6 = z at *

      have g0 : w.cell? ⟨g, k * 6, none⟩ = some (.int .i64 (z)) := Bk.at_ (pre := (mksP k0 k) ++ ([] : List Value)) (r := (.int .i64 (z + 1)) :: (.int .i64 (z + 1 + 1)) :: (.int .i64 (z + 1 + 1 + 1)) :: (.bool ((z + 1 + 1 + 1 + 1) % 3 == 0)) :: (.bool ((z + 1 + 1 + 1 + 1 + 1) % 3 == 0)) :: r') (by simpa [mk1P, hzz] using hp) (by simp [HKL.out])
      have g1 : w.cell? ⟨g, k * 6 + 1, none⟩ = some (.int .i64 (z + 1)) := Bk.at_ (pre := (mksP k0 k) ++ ([.int .i64 (z)] : List Value)) (r := (.int .i64 (z + 1 + 1)) :: (.int .i64 (z + 1 + 1 + 1)) :: (.bool ((z + 1 + 1 + 1 + 1) % 3 == 0)) :: (.bool ((z + 1 + 1 + 1 + 1 + 1) % 3 == 0)) :: r') (by simpa [mk1P, hzz] using hp) (by simp [HKL.out])
      have g2 : w.cell? ⟨g, k * 6 + 2, none⟩ = some (.int .i64 (z + 1 + 1)) := Bk.at_ (pre := (mksP k0 k) ++ ([.int .i64 (z), .int .i64 (z + 1)] : List Value)) (r := (.int .i64 (z + 1 + 1 + 1)) :: (.bool ((z + 1 + 1 + 1 + 1) % 3 == 0)) :: (.bool ((z + 1 + 1 + 1 + 1 + 1) % 3 == 0)) :: r') (by simpa [mk1P, hzz] using hp) (by simp [HKL.out])
      have g3 : w.cell? ⟨g, k * 6 + 3, none⟩ = some (.int .i64 (z + 1 + 1 + 1)) := Bk.at_ (pre := (mksP k0 k) ++ ([.int .i64 (z), .int .i64 (z + 1), .int .i64 (z + 1 + 1)] : List Value)) (r := (.bool ((z + 1 + 1 + 1 + 1) % 3 == 0)) :: (.bool ((z + 1 + 1 + 1 + 1 + 1) % 3 == 0)) :: r') (by simpa [mk1P, hzz] using hp) (by simp [HKL.out])
      have g4 : w.cell? ⟨g, k * 6 + 4, none⟩ = some (.bool ((z + 1 + 1 + 1 + 1) % 3 == 0)) := Bk.at_ (pre := (mksP k0 k) ++ ([.int .i64 (z), .int .i64 (z + 1), .int .i64 (z + 1 + 1), .int .i64 (z + 1 + 1 + 1)] : List Value)) (r := (.bool ((z + 1 + 1 + 1 + 1 + 1) % 3 == 0)) :: r') (by simpa [mk1P, hzz] using hp) (by simp [HKL.out])
      have g5 : w.cell? ⟨g, k * 6 + 5, none⟩ = some (.bool ((z + 1 + 1 + 1 + 1 + 1) % 3 == 0)) := Bk.at_ (pre := (mksP k0 k) ++ ([.int .i64 (z), .int .i64 (z + 1), .int .i64 (z + 1 + 1), .int .i64 (z + 1 + 1 + 1), .bool ((z + 1 + 1 + 1 + 1) % 3 == 0)] : List Value)) (r := r') (by simpa [mk1P, hzz] using hp) (by simp [HKL.out])
      have HZ := Lib.hid hzz
      clear hzz hp hs
      go_wp2
      go_round
      case rel => exact ⟨k + 1, by omega, by go_num, by rw [← HZ.out]; go_num⟩
      case measure => simp [intOf]; omega
    · have hkn : k = n := by omega
      subst hkn
      go_wp2
      go_ret
      exact ⟨rfl, rfl⟩
end Go.Proofs.YtjpglpglgkopiaaDoor
