/-
  Headers: what is drawn: packets, and bytes that are often their headers.
  Conditions: the code's memory.
-/
import Derived.Test.YtjpglpglgkopiaaDoorHdV
import Derived.Test.YtjpglpglgkopiaaDoorHdE
import Derived.Test.YtjpglpglgkopiaaDoorHdM
namespace Go.Proofs.YtjpglpglgkopiaaDoor
open Go.RowKit
set_option linter.unusedVariables false
set_option linter.unusedSimpArgs false

/-- Packets were drawn, from a code. -/
def HxbDrawn (w : World) (e : Ending) (w' : World) : Prop := ∃ (A : Option Addr) (c : Nat) (xs : List Pk), e = .returned (.slice A xs.length c) ∧ xs.length ≤ 6 ∧ xs.length ≤ c ∧ c ≤ maxLen ∧ Pks w' w'.heap.size A xs.length xs ∧ Below w.heap.size w w'

set_option maxHeartbeats 4000000 in
theorem draw_hxb (A : Option Addr) (n c : Nat) (w : World) (h : Bytes w w.heap.size A n) (hnc : n ≤ c) (hc : c ≤ maxLen) :
    Calls Tryd.prog 23 #[.slice A n c] w (HxbDrawn w) := by
  go_enter Tryd.func23, Tryd.ntmps23
  go_wp2_with fail
  refine (open_any A n c _ h hnc hc).mono ?_
  rintro e w1 ⟨rfl, hrd, hb1⟩
  have hl1 := hrd.lt
  go_wp2_with fail
  refine (l91Packets_any _ _ _ 6 _ hrd (by omega) (by omega)).mono ?_
  rintro e w2 ⟨v, xs, rfl, hx6, hown, hrd2, ho⟩
  have hB2 := hb1.trans (ho.below (by omega) hb1.size)
  obtain ⟨A2, c2, rfl, h1, h2, h3⟩ := own_shape hown
  have HS := Lib.hid (show Pks w2 w2.heap.size A2 xs.length xs from h3)
  clear h3 hown
  go_wp2
  go_ret
  exact ⟨A2, c2, xs, rfl, hx6, h1, h2, HS.out, hB2⟩

set_option maxHeartbeats 4000000 in
set_option maxRecDepth 100000 in
theorem draw_hx (A : Option Addr) (n c : Nat) (w : World) (h : Bytes w w.heap.size A n) (hnc : n ≤ c) (hc : c ≤ maxLen) :
    Calls Tryd.prog 28 #[.slice A n c] w (HvDrawn w) := by
  go_enter Tryd.func28, Tryd.ntmps28
  go_wp2_with fail
  refine (open_any A n c _ h hnc hc).mono ?_
  rintro e w1 ⟨rfl, hrd, hb1⟩
  have hl1 := hrd.lt
  go_wp2_with fail
  refine (l91Packets_any _ _ _ 6 _ hrd (by omega) (by omega)).mono ?_
  rintro e w2 ⟨v, xs, rfl, hx6, hown, hrd2, ho⟩
  have hB2 := hb1.trans (ho.below (by omega) hb1.size)
  obtain ⟨A2, c2, rfl, h1, h2, h3⟩ := own_shape hown
  have HS := Lib.hid (show Pks w2 w2.heap.size A2 xs.length xs from h3)
  have hl2 := hrd2.lt
  clear h3 hown hrd ho hl1 hb1
  go_wp2_with fail
  refine (shm_any A2 xs.length c2 xs w2 HS.out (by omega)).mono ?_
  rintro e w4 ⟨hy, hn⟩
  have bad : ∀ w4 : World, Below w2.heap.size w2 w4 → HvDrawn w (.returned (.tuple #[.int .i64 5, .slice (some ⟨w4.heap.size, 0, none⟩) 8 8])) (w4.alloc (.cells #[.int .i64 0, .int .i64 5, .int .i64 0, .int .i64 0, .int .i64 9, .int .i64 2, .int .i64 0, .int .i64 9] 3)) := fun w4 hb4 => by
    have hB4 := hB2.trans (hb4.mono hB2.size)
    have hs4 := hB4.size
    exact ⟨5, _, 8, 8, [0, 5, 0, 0, 9, 2, 0, 9], rfl, ints_own (base := w.heap.size) (c := 8) (own_bk (r := []) (by rw [List.append_nil]; exact Bk.new _ _ _) hs4 (by simp) rfl (Nat.le_refl _) (by unfold maxLen; omega) (one_is _)), by omega, by unfold maxLen; omega, by omega, hB4.alloc hs4 _⟩
  have HBAD := Lib.hid bad
  clear bad
  by_cases hk : psOk xs
  rotate_left
  · obtain ⟨⟨A4, c4, rfl⟩, hb4⟩ := hn hk
    clear hy hn
    go_wp2
    go_ret2
    exact HBAD.out _ hb4
  obtain ⟨⟨A4, c4, rfl, hown4⟩, hb4⟩ := hy hk
  have hB4 := hB2.trans (hb4.mono hB2.size)
  clear hy hn
  obtain ⟨m, hm⟩ : ∃ m, xs.length = m := ⟨_, rfl⟩
  rw [hm] at hown4 hx6 ⊢
  obtain ⟨ls, hls⟩ : ∃ ls, xs.flatMap hB = ls := ⟨_, rfl⟩
  rw [hls] at hown4
  by_cases hm0 : m = 0
  · subst hm0
    clear hm hls hown4 hB4
    go_wp2
    go_ret2
    exact HBAD.out _ hb4
  have hrd4 := hrd2.below hb4
  clear HBAD hm hls hk hb4 hrd2 HS h1 h2
  have HLS := Lib.hid (show ls.length = 8 * m by have := hown4.1; simpa using this)
  have HO4 := Lib.hid (own_more hown4 (base' := w2.heap.size) (Nat.le_refl _))
  obtain ⟨g4, c5, he4, hg4, hg4l, h8c, hcm2⟩ := own_head hown4 (by omega)
  injection he4 with hA4 _ hc4
  subst hA4 hc4
  have hgx : w.heap.size < g4 := by omega
  have HB4 := Lib.hid hB4
  have hm6 : 8 * m ≤ 48 := by omega
  have f0 : ((8 * m : Nat) == 0) = false := by simp; omega
  have f1 : (((8 * m : Nat) : Int) == 0) = false := by simp; omega
  obtain ⟨q, hq⟩ : ∃ q, 8 * m = q := ⟨_, rfl⟩
  rw [hq] at HLS HO4 f0 f1 h8c hm6 ⊢
  have hq1 : 1 ≤ q := by omega
  clear hq hm0 hown4 hB4 hx6
  go_wp2_with fail
  refine (pick_any _ _ _ _ _ hrd4 (by omega) (by omega)).mono ?_
  rintro e w_k ⟨k, rfl, k_0, k_1, hrd_k, ho_k, hsz_k⟩
  have k_u := k_1 (by omega)
  have hlt_k := hrd_k.lt
  clear k_1
  go_wp2_with fail
  refine (pick_any _ _ _ _ _ hrd_k (by omega) (by omega)).mono ?_
  rintro e w_s ⟨s, rfl, s_0, s_1, hrd_s, ho_s, hsz_s⟩
  have s_u := s_1 (by omega)
  have hlt_s := hrd_s.lt
  clear s_1
  have hO6 : Only w.heap.size w4 w_s := ho_k.trans ho_s
  have HO6 := Lib.hid (own_only HO4.out hO6 (by omega))
  have HB6 := Lib.hid (HB4.out.trans (hO6.below (Nat.le_refl _) HB4.out.size))
  obtain ⟨k, rfl⟩ := Int.eq_ofNat_of_zero_le k_0
  have hk8 : k < q := by omega
  clear ho_k ho_s hsz_k hsz_s hrd_k hO6 HO4 HB4
  by_cases hs0 : s = 0
  · subst hs0
    have e0 : ((0 : Int) == 0) = true := rfl
    go_wp2_with fail
    refine (pick_any _ _ _ _ _ hrd_s (by omega) (by omega)).mono ?_
    rintro e w_v ⟨v, rfl, v_0, v_1, hrd_v, ho_v, hsz_v⟩
    have v_u := v_1 (by omega)
    have hlt_v := hrd_v.lt
    clear v_1
    have HO7 := Lib.hid (own_only HO6.out ho_v (by omega))
    have HB7 := Lib.hid (HB6.out.trans (ho_v.below (Nat.le_refl _) HB6.out.size))
    obtain ⟨z, hz⟩ : ∃ z, ls[k]? = some z := ⟨_, List.getElem?_eq_getElem (by rw [HLS.out]; exact hk8)⟩
    have hck := own_cell HO7.out (i := k) (u := .int .i64 z) (by rw [List.getElem?_map, hz]; rfl)
    have hfk := own_free HO7.out k
    clear ho_v hsz_v hz
    have hk0 : (0 : Int) ≤ (k : Int) := Int.natCast_nonneg _
    have hk1 : (k : Int) < (q : Int) := by omega
    have HOX := Lib.hid (show (w_v.setCell ⟨g4, k, none⟩ (.int .i64 v)).ownsRow _ 3 1 (.slice (some ⟨g4, 0, none⟩) q c4) q ((ls.set k v).map (Value.int .i64)) by have := own_set HO7.out (j := k) (.int .i64 v); rwa [← List.map_set] at this)
    have HBX := Lib.hid (HB7.out.setCell (p := ⟨g4, k, none⟩) (by show w.heap.size ≤ g4; omega) (.int .i64 v))
    have hrx := (Rd.setCell (p := ⟨g4, k, none⟩) hrd_v (by show w.heap.size < g4; omega) (.int .i64 v)).more (K' := 2000) (by omega)
    clear HO7 HB7 HO6 HB6 hrd_v hrd_s
    go_wp2_with fail
    generalize w_v.setCell ⟨g4, k, none⟩ (.int .i64 v) = wx at *
    clear hck hfk
    refine (pick_any _ _ _ _ _ hrx (by omega) (by omega)).mono ?_
    rintro e w9 ⟨r, rfl, r0, r1, hrd9, ho9, _⟩
    have HO9 := Lib.hid (own_only HOX.out ho9 (by omega))
    have HB9 := Lib.hid (HBX.out.trans (ho9.below (Nat.le_refl _) HBX.out.size))
    clear ho9
    go_wp2
    go_ret2
    exact ⟨r, _, q, c4, _, rfl, ints_own HO9.out, h8c, hcm2, by omega, HB9.out⟩
  · have e0 : (s == 0) = false := by simpa using hs0
    by_cases hs1 : s = 1
    · subst hs1
      have hk0 : (0 : Int) ≤ (k : Int) := Int.natCast_nonneg _
      have hkc : k ≤ c4 := by omega
      have hkc' : (k : Int) ≤ (c4 : Int) := by omega
      go_wp2_with fail
      go_quiet (fail)
      go_wp2
      go_ret2
      refine ⟨9, _, k, c4, ls.take k, rfl, ?_, hkc, hcm2, by omega, Below.drewN' HB6.out nq⟩
      have h1 := (Sl.of_own HO6.out).take_ (k := k) (by omega)
      rw [Nat.mul_one, ← List.map_take] at h1
      exact h1
    · have e1 : (s == 1) = false := by simpa using hs1
      go_wp2_with fail
      refine (pick_any _ _ _ _ _ hrd_s (by omega) (by omega)).mono ?_
      rintro e w_r ⟨r, rfl, r_0, r_1, hrd_r, ho_r, hsz_r⟩
      have r_u := r_1 (by omega)
      have hlt_r := hrd_r.lt
      clear r_1
      have HO9 := Lib.hid (own_only HO6.out ho_r (by omega))
      have HB9 := Lib.hid (HB6.out.trans (ho_r.below (Nat.le_refl _) HB6.out.size))
      clear ho_r
      go_wp2
      go_ret2
      exact ⟨r, _, q, c4, _, rfl, ints_own HO9.out, h8c, hcm2, by omega, HB9.out⟩
end Go.Proofs.YtjpglpglgkopiaaDoor
