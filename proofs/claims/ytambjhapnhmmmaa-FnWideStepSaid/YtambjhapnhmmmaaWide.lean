/-
  Wide numbers and serial numbers: what the functions of chapter 1 give.
  Conditions: none but the arguments' being integers, as each theorem states.
-/
import Derived.Test.YtambjhapnhmmmaaRows
import Derived.Test.YtambjhapnhmmmaaLib
import Derived.Test.YtambjhapnhmmmaaDraw
namespace Go.Proofs.Ytambjhapnhmmmaa
open Go.RowKit
set_option linter.unusedVariables false

/-- The number near another one with a serial number. -/
def wideNum (near a : Int) : Int := near + ((a - near % 65536 + 98304) % 65536 - 32768)
/-- Are the arguments of WideOf valid? -/
def WideArgs (near a : Int) : Prop := 0 ≤ near ∧ near ≤ 999999 ∧ 0 ≤ a ∧ a < 65536
def WideOk (near a : Int) : Prop := WideArgs near a ∧ 0 ≤ wideNum near a ∧ wideNum near a ≤ 999999

open Classical in
/-- What WideOf gives. -/
noncomputable def wideR (near a : Int) : Int × Bool := if WideOk near a then (wideNum near a, true) else (0, false)

theorem wideR_ok {near a : Int} (h : WideOk near a) : wideR near a = (wideNum near a, true) := if_pos h
theorem wideR_no {near a : Int} (h : ¬ WideOk near a) : wideR near a = (0, false) := if_neg h

def WideRet (near a : Int) (w : World) (e : Ending) (w' : World) : Prop := e = .returned (.tuple #[.int .i64 (wideR near a).1, .bool (wideR near a).2]) ∧ w = w'

theorem wideRet_ok {near a : Int} {w : World} (h : WideOk near a) : WideRet near a w (.returned (.tuple #[.int .i64 (wideNum near a), .bool true])) w := ⟨by rw [wideR_ok h], rfl⟩
theorem wideRet_no {near a : Int} {w : World} (h : ¬ WideOk near a) : WideRet near a w (.returned (.tuple #[.int .i64 0, .bool false])) w := ⟨by rw [wideR_no h], rfl⟩
theorem ret_pair {k : IntKind} {a b : Int} {c : Bool} (h : a = b) : Ending.returned (.tuple #[.int k a, .bool c]) = .returned (.tuple #[.int k b, .bool c]) := by rw [h]

theorem wide_yes {near a : Int} {w : World} (v : Int) (h0 : 0 ≤ near) (h1 : near ≤ 999999) (h2 : 0 ≤ a) (h3 : a < 65536) (hv : v = wideNum near a) (h4 : 0 ≤ v) (h5 : v ≤ 999999) :
    WideRet near a w (.returned (.tuple #[.int .i64 v, .bool true])) w := by
  subst hv
  exact wideRet_ok ⟨⟨h0, h1, h2, h3⟩, h4, h5⟩
theorem wide_no {near a : Int} {w : World} (v : Int) (hv : v = wideNum near a) (h : near < 0 ∨ 999999 < near ∨ a < 0 ∨ 65536 ≤ a ∨ v < 0 ∨ 999999 < v) :
    WideRet near a w (.returned (.tuple #[.int .i64 0, .bool false])) w := by
  subst hv
  refine wideRet_no ?_
  unfold WideOk WideArgs
  omega

theorem rest_any (n : Int) (w : World) (h0 : -4611686018427387904 ≤ n) (h1 : n ≤ 4611686018427387904) :
    Calls Try.prog 39 #[.int .i64 n] w fun e w' => e = .returned (.int .i64 (n % 65536)) ∧ w = w' := by
  by_cases hn : 0 ≤ n
  · go_enter Try.func39, Try.ntmps39
    go_wp2
    go_ret
    exact ⟨ret_int (by omega), rfl⟩
  · have hm : n.tmod 65536 = -((-n) % 65536) := by rw [tmod_eq_if, if_neg hn]
    go_enter Try.func39, Try.ntmps39
    go_wp2
    go_ret
    exact ⟨ret_int (by omega), rfl⟩

set_option maxHeartbeats 1000000 in
theorem impl_wide (near a : Int) (w : World) :
    Calls Try.prog 15 #[.int .i64 near, .int .i64 a] w (WideRet near a w) := by
  by_cases h0 : 0 ≤ near
  · have d0 : decide (0 ≤ near) = true := by simpa using h0
    by_cases h1 : near ≤ 999999
    · have d1 : decide (near ≤ 999999) = true := by simpa using h1
      by_cases h2 : 0 ≤ a
      · have d2 : decide (0 ≤ a) = true := by simpa using h2
        by_cases h3 : a < 65536
        · have d3 : decide (a < 65536) = true := by simpa using h3
          go_enter Try.func15, Try.ntmps15
          go_wp2
          all_goals go_ret2
          all_goals (try simp only [Bool.not_eq_true', Bool.not_eq_false', decide_eq_true_eq, decide_eq_false_iff_not] at *)
          all_goals first
            | exact wide_yes _ h0 h1 h2 (by omega) (by unfold wideNum; omega) (by omega) (by omega)
            | exact wide_no _ rfl (by unfold wideNum; omega)
        · have d3 : decide (a < 65536) = false := by simpa using h3
          go_enter Try.func15, Try.ntmps15
          go_wp2
          all_goals go_ret2
          all_goals exact wide_no _ rfl (by omega)
      · have d2 : decide (0 ≤ a) = false := by simpa using h2
        go_enter Try.func15, Try.ntmps15
        go_wp2
        all_goals go_ret2
        all_goals exact wide_no _ rfl (by omega)
    · have d1 : decide (near ≤ 999999) = false := by simpa using h1
      go_enter Try.func15, Try.ntmps15
      go_wp2
      all_goals go_ret2
      all_goals exact wide_no _ rfl (by omega)
  · have d0 : decide (0 ≤ near) = false := by simpa using h0
    go_enter Try.func15, Try.ntmps15
    go_wp2
    all_goals go_ret2
    all_goals exact wide_no _ rfl (by omega)

set_option maxHeartbeats 1000000 in
theorem spec_wide (near a : Int) (w : World) :
    Calls Try.prog 16 #[.int .i64 near, .int .i64 a] w (WideRet near a w) := by
  by_cases h0 : 0 ≤ near
  · have d0 : decide (0 ≤ near) = true := by simpa using h0
    by_cases h1 : near ≤ 999999
    · have d1 : decide (near ≤ 999999) = true := by simpa using h1
      by_cases h2 : 0 ≤ a
      · have d2 : decide (0 ≤ a) = true := by simpa using h2
        by_cases h3 : a ≤ 65535
        · have d3 : decide (a ≤ 65535) = true := by simpa using h3
          go_enter Try.func16, Try.ntmps16
          go_wp2_with (first
            | (go_at_call 39; refine (rest_any _ _ (by omega) (by omega)).mono ?_; rintro e w' ⟨rfl, rfl⟩)
            | go_in)
          all_goals go_ret2
          all_goals (try simp only [Bool.not_eq_true', Bool.not_eq_false', decide_eq_true_eq, decide_eq_false_iff_not] at *)
          all_goals first
            | exact wide_yes _ h0 h1 h2 (by omega) (by unfold wideNum; omega) (by omega) (by omega)
            | exact wide_no _ rfl (by unfold wideNum; omega)
        · have d3 : decide (a ≤ 65535) = false := by simpa using h3
          go_enter Try.func16, Try.ntmps16
          go_wp2
          all_goals go_ret2
          all_goals exact wide_no _ rfl (by omega)
      · have d2 : decide (0 ≤ a) = false := by simpa using h2
        go_enter Try.func16, Try.ntmps16
        go_wp2
        all_goals go_ret2
        all_goals exact wide_no _ rfl (by omega)
    · have d1 : decide (near ≤ 999999) = false := by simpa using h1
      go_enter Try.func16, Try.ntmps16
      go_wp2
      all_goals go_ret2
      all_goals exact wide_no _ rfl (by omega)
  · have d0 : decide (0 ≤ near) = false := by simpa using h0
    go_enter Try.func16, Try.ntmps16
    go_wp2
    all_goals go_ret2
    all_goals exact wide_no _ rfl (by omega)


/-! ### Draws -/
set_option maxHeartbeats 2000000 in
theorem serial_any (B g K : Nat) (w : World) (h : Rd w B g K) (hK : K ≤ 1099511620000) :
    Calls Try.prog 38 #[.pointer (some ⟨g, 0, none⟩)] w fun e w' => ∃ r : Int, e = .returned (.int .i64 r) ∧ -1 ≤ r ∧ r ≤ 65536 ∧ Rd w' B g (K + 4) ∧ Only g w w' := by
  go_enter Try.func38, Try.ntmps38
  go_wp2_with fail
  refine (pick_any _ _ _ _ _ h (by omega) (by omega)).mono ?_
  rintro e w_a ⟨a, rfl, a_0, a_1, hrd_a, ho_a, hsz_a⟩
  have a_u := a_1 (by omega)
  have hlt_a := hrd_a.lt
  clear a_1
  by_cases ha0 : a = 0
  · subst ha0
    go_wp2_with fail
    have hnew := Bk.new w_a 3 #[.int .i64 0, .int .i64 1, .int .i64 32767, .int .i64 32768, .int .i64 65535]
    have hall := fun o => (Below.refl w_a.heap.size w_a).alloc (Nat.le_refl _) o
    go_wp2_with fail
    refine (pick_any _ _ _ _ _ (hrd_a.below (hall _)) (by omega) (by omega)).mono ?_
    rintro e w_b ⟨b, rfl, b_0, b_1, hrd_b, ho_b, hsz_b⟩
    have b_u := b_1 (by omega)
    have hlt_b := hrd_b.lt
    clear b_1
    obtain ⟨k, rfl⟩ := Int.eq_ofNat_of_zero_le b_0
    obtain ⟨z, hz, z0, z1⟩ := lit_cell [0, 1, 32767, 32768, 65535] (-1) 65536 (hnew.only ho_b (by omega)) (by decide) (k := k) (by simp; omega)
    go_wp2
    go_ret
    exact ⟨_, rfl, z0, z1, hrd_b.more (by omega), (ho_a.trans (Only.of_below (hall _))).trans ho_b⟩
  · have e0 : (a == 0) = false := by simpa using ha0
    by_cases ha1 : a = 1
    · subst ha1
      go_wp2_with fail
      refine (pick_any _ _ _ _ _ hrd_a (by omega) (by omega)).mono ?_
      rintro e w_b ⟨b, rfl, b_0, b_1, hrd_b, ho_b, hsz_b⟩
      have b_u := b_1 (by omega)
      have hlt_b := hrd_b.lt
      clear b_1
      by_cases hb0 : b = 0
      · subst hb0
        go_wp2_with fail
        have hnew := Bk.new w_b 3 #[.int .i64 (-1), .int .i64 65536]
        have hall := fun o => (Below.refl w_b.heap.size w_b).alloc (Nat.le_refl _) o
        go_wp2_with fail
        refine (pick_any _ _ _ _ _ (hrd_b.below (hall _)) (by omega) (by omega)).mono ?_
        rintro e w_c ⟨c, rfl, c_0, c_1, hrd_c, ho_c, hsz_c⟩
        have c_u := c_1 (by omega)
        have hlt_c := hrd_c.lt
        clear c_1
        obtain ⟨k, rfl⟩ := Int.eq_ofNat_of_zero_le c_0
        obtain ⟨z, hz, z0, z1⟩ := lit_cell [-1, 65536] (-1) 65536 (hnew.only ho_c (by omega)) (by decide) (k := k) (by simp; omega)
        go_wp2
        go_ret
        exact ⟨_, rfl, z0, z1, hrd_c.more (by omega), ((ho_a.trans ho_b).trans (Only.of_below (hall _))).trans ho_c⟩
      · have e1 : (b == 0) = false := by simpa using hb0
        go_wp2_with fail
        refine (pick_any _ _ _ _ _ hrd_b (by omega) (by omega)).mono ?_
        rintro e w_c ⟨c, rfl, c_0, c_1, hrd_c, ho_c, hsz_c⟩
        have c_u := c_1 (by omega)
        have hlt_c := hrd_c.lt
        clear c_1
        go_wp2_with fail
        refine (pick_any _ _ _ _ _ hrd_c (by omega) (by omega)).mono ?_
        rintro e w_d ⟨d, rfl, d_0, d_1, hrd_d, ho_d, hsz_d⟩
        have d_u := d_1 (by omega)
        have hlt_d := hrd_d.lt
        clear d_1
        go_wp2
        go_ret
        exact ⟨_, rfl, by omega, by omega, hrd_d.more (by omega), ((ho_a.trans ho_b).trans ho_c).trans ho_d⟩
    · have e1 : (a == 1) = false := by simpa using ha1
      go_wp2_with fail
      refine (pick_any _ _ _ _ _ hrd_a (by omega) (by omega)).mono ?_
      rintro e w_c ⟨c, rfl, c_0, c_1, hrd_c, ho_c, hsz_c⟩
      have c_u := c_1 (by omega)
      have hlt_c := hrd_c.lt
      clear c_1
      go_wp2_with fail
      refine (pick_any _ _ _ _ _ hrd_c (by omega) (by omega)).mono ?_
      rintro e w_d ⟨d, rfl, d_0, d_1, hrd_d, ho_d, hsz_d⟩
      have d_u := d_1 (by omega)
      have hlt_d := hrd_d.lt
      clear d_1
      go_wp2
      go_ret
      exact ⟨_, rfl, by omega, by omega, hrd_d.more (by omega), (ho_a.trans ho_c).trans ho_d⟩

set_option maxHeartbeats 2000000 in
theorem draw_wide (A : Option Addr) (n c : Nat) (w : World) (h : Bytes w w.heap.size A n) (hnc : n ≤ c) (hc : c ≤ maxLen) :
    Calls Try.prog 14 #[.slice A n c] w fun e w' => ∃ near a : Int, e = .returned (.tuple #[.int .i64 near, .int .i64 a]) ∧ -1 ≤ near ∧ near ≤ 1000000 ∧ -1 ≤ a ∧ a ≤ 65536 ∧ Below w.heap.size w w' := by
  go_enter Try.func14, Try.ntmps14
  go_wp2_with fail
  refine (open_any A n c _ h hnc hc).mono ?_
  rintro e w1 ⟨rfl, hrd, hb⟩
  go_wp2_with fail
  refine (pick_any _ _ _ _ _ hrd (by omega) (by omega)).mono ?_
  rintro e w_p ⟨p, rfl, p_0, p_1, hrd_p, ho_p, hsz_p⟩
  have p_u := p_1 (by omega)
  have hlt_p := hrd_p.lt
  clear p_1
  go_wp2_with fail
  refine (pick_any _ _ _ _ _ hrd_p (by omega) (by omega)).mono ?_
  rintro e w_q ⟨q, rfl, q_0, q_1, hrd_q, ho_q, hsz_q⟩
  have q_u := q_1 (by omega)
  have hlt_q := hrd_q.lt
  clear q_1
  go_wp2_with fail
  refine (pick_any _ _ _ _ _ hrd_q (by omega) (by omega)).mono ?_
  rintro e w_r ⟨r, rfl, r_0, r_1, hrd_r, ho_r, hsz_r⟩
  have r_u := r_1 (by omega)
  have hlt_r := hrd_r.lt
  clear r_1
  have hB : Below w.heap.size w w_r := hb.trans (((ho_p.trans ho_q).trans ho_r).below (Nat.le_refl _) hb.size)
  have tail : ∀ (near : Int) (w5 : World) (K : Nat), -1 ≤ near → near ≤ 1000000 → Rd w5 w.heap.size w.heap.size K → K ≤ 10 → Below w.heap.size w w5 → True := fun _ _ _ _ _ _ _ _ => trivial
  clear ho_p ho_q ho_r hsz_p hsz_q hsz_r hb hrd hrd_p hrd_q tail
  by_cases hr0 : r = 0
  · subst hr0
    go_wp2_with fail
    have hnew := Bk.new w_r 3 #[.int .i64 (-1), .int .i64 0, .int .i64 999999, .int .i64 1000000]
    have hall := fun o => (Below.refl w_r.heap.size w_r).alloc (Nat.le_refl _) o
    go_wp2_with fail
    refine (pick_any _ _ _ _ _ (hrd_r.below (hall _)) (by omega) (by omega)).mono ?_
    rintro e w_s ⟨s, rfl, s_0, s_1, hrd_s, ho_s, hsz_s⟩
    have s_u := s_1 (by omega)
    have hlt_s := hrd_s.lt
    clear s_1
    have hBs : Below w.heap.size w w_s := (hB.trans ((hall _).mono hB.size)).trans (ho_s.below (Nat.le_refl _) (by simp; omega))
    obtain ⟨k, rfl⟩ := Int.eq_ofNat_of_zero_le s_0
    obtain ⟨z, hz, z0, z1⟩ := lit_cell [-1, 0, 999999, 1000000] (-1) 1000000 (hnew.only ho_s (by omega)) (by decide) (k := k) (by simp; omega)
    clear hnew hall ho_s hsz_s hrd_r hB
    go_wp2_with fail
    refine (pick_any _ _ _ _ _ hrd_s (by omega) (by omega)).mono ?_
    rintro e w_u ⟨u, rfl, u_0, u_1, hrd_u, ho_u, hsz_u⟩
    have u_u := u_1 (by omega)
    have hlt_u := hrd_u.lt
    clear u_1
    have hBu : Below w.heap.size w w_u := hBs.trans (ho_u.below (Nat.le_refl _) (by omega))
    by_cases hu0 : u = 0
    · subst hu0
      go_wp2_with fail
      refine (serial_any _ _ _ _ hrd_u (by omega)).mono ?_
      rintro e w_v ⟨v, rfl, v0, v1, hrd_v, ho_v⟩
      go_wp2
      go_ret2
      exact ⟨z, v, rfl, z0, z1, v0, v1, hBu.trans (ho_v.below (Nat.le_refl _) (by omega))⟩
    · have e1 : (u == 0) = false := by simpa using hu0
      go_wp2_with fail
      refine (pick_any _ _ _ _ _ hrd_u (by omega) (by omega)).mono ?_
      rintro e w_v ⟨v, rfl, v_0, v_1, hrd_v, ho_v, hsz_v⟩
      have v_u := v_1 (by omega)
      have hlt_v := hrd_v.lt
      clear v_1
      go_wp2_with fail
      refine (pick_any _ _ _ _ _ hrd_v (by omega) (by omega)).mono ?_
      rintro e w_x ⟨x, rfl, x_0, x_1, hrd_x, ho_x, hsz_x⟩
      have x_u := x_1 (by omega)
      have hlt_x := hrd_x.lt
      clear x_1
      have hm := mul_bd (x := v - 128) (y := 1 + x) 128 100 (by omega) (by omega) (by omega) (by omega) (by omega)
      go_wp2_with fail
      refine (rest_any _ _ (by omega) (by omega)).mono ?_
      rintro e w' ⟨rfl, rfl⟩
      go_wp2
      go_ret2
      exact ⟨z, _, rfl, z0, z1, by omega, by omega, hBu.trans ((ho_v.trans ho_x).below (Nat.le_refl _) (by omega))⟩
  · have e0 : (r == 0) = false := by simpa using hr0
    go_wp2_with fail
    refine (pick_any _ _ _ _ _ hrd_r (by omega) (by omega)).mono ?_
    rintro e w_u ⟨u, rfl, u_0, u_1, hrd_u, ho_u, hsz_u⟩
    have u_u := u_1 (by omega)
    have hlt_u := hrd_u.lt
    clear u_1
    have hBu : Below w.heap.size w w_u := hB.trans (ho_u.below (Nat.le_refl _) (by omega))
    by_cases hu0 : u = 0
    · subst hu0
      go_wp2_with fail
      refine (serial_any _ _ _ _ hrd_u (by omega)).mono ?_
      rintro e w_v ⟨v, rfl, v0, v1, hrd_v, ho_v⟩
      go_wp2
      go_ret2
      exact ⟨_, v, rfl, by omega, by omega, v0, v1, hBu.trans (ho_v.below (Nat.le_refl _) (by omega))⟩
    · have e1 : (u == 0) = false := by simpa using hu0
      go_wp2_with fail
      refine (pick_any _ _ _ _ _ hrd_u (by omega) (by omega)).mono ?_
      rintro e w_v ⟨v, rfl, v_0, v_1, hrd_v, ho_v, hsz_v⟩
      have v_u := v_1 (by omega)
      have hlt_v := hrd_v.lt
      clear v_1
      go_wp2_with fail
      refine (pick_any _ _ _ _ _ hrd_v (by omega) (by omega)).mono ?_
      rintro e w_x ⟨x, rfl, x_0, x_1, hrd_x, ho_x, hsz_x⟩
      have x_u := x_1 (by omega)
      have hlt_x := hrd_x.lt
      clear x_1
      have hm := mul_bd (x := v - 128) (y := 1 + x) 128 100 (by omega) (by omega) (by omega) (by omega) (by omega)
      go_wp2_with fail
      refine (rest_any _ _ (by omega) (by omega)).mono ?_
      rintro e w' ⟨rfl, rfl⟩
      go_wp2
      go_ret2
      exact ⟨_, _, rfl, by omega, by omega, by omega, by omega, hBu.trans ((ho_v.trans ho_x).below (Nat.le_refl _) (by omega))⟩

/-! ### Both forms of the contract -/
theorem impl_wide_ok {near a : Int} (h : WideOk near a) (w : World) : Calls Try.prog 15 #[.int .i64 near, .int .i64 a] w fun e w' => e = .returned (.tuple #[.int .i64 (wideNum near a), .bool true]) ∧ w = w' :=
  (impl_wide near a w).mono fun e w' hh => by obtain ⟨h1, h2⟩ := hh; rw [wideR_ok h] at h1; exact ⟨h1, h2⟩
theorem impl_wide_no {near a : Int} (h : ¬ WideOk near a) (w : World) : Calls Try.prog 15 #[.int .i64 near, .int .i64 a] w fun e w' => e = .returned (.tuple #[.int .i64 0, .bool false]) ∧ w = w' :=
  (impl_wide near a w).mono fun e w' hh => by obtain ⟨h1, h2⟩ := hh; rw [wideR_no h] at h1; exact ⟨h1, h2⟩
theorem spec_wide_ok {near a : Int} (h : WideOk near a) (w : World) : Calls Try.prog 16 #[.int .i64 near, .int .i64 a] w fun e w' => e = .returned (.tuple #[.int .i64 (wideNum near a), .bool true]) ∧ w = w' :=
  (spec_wide near a w).mono fun e w' hh => by obtain ⟨h1, h2⟩ := hh; rw [wideR_ok h] at h1; exact ⟨h1, h2⟩
theorem spec_wide_no {near a : Int} (h : ¬ WideOk near a) (w : World) : Calls Try.prog 16 #[.int .i64 near, .int .i64 a] w fun e w' => e = .returned (.tuple #[.int .i64 0, .bool false]) ∧ w = w' :=
  (spec_wide near a w).mono fun e w' hh => by obtain ⟨h1, h2⟩ := hh; rw [wideR_no h] at h1; exact ⟨h1, h2⟩
end Go.Proofs.Ytambjhapnhmmmaa
