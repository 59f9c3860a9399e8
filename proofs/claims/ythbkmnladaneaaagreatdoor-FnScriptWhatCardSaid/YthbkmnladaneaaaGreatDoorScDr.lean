/-
  Scripts: what is drawn: a string.
  Conditions: the code's memory.
-/
import Derived.Test.YthbkmnladaneaaaGreatDoorDraw
import Derived.Test.YthbkmnladaneaaaGreatDoorScD
namespace Go.Proofs.YthbkmnladaneaaaGreatDoor
open Go.RowKit
set_option linter.unusedVariables false
set_option linter.unusedSimpArgs false
set_option maxRecDepth 100000

theorem app_strD (a b : List UInt8) (m : List UInt8) (h : a ++ b = m) : (⟨a.toArray⟩ : ByteArray) ++ ⟨b.toArray⟩ = ⟨m.toArray⟩ := by rw [← h]; exact str_app a b
theorem half_pow {j : Nat} {n : Int} (hj : j ≤ 7) (h0 : 0 < n) (h : n < 2 ^ (7 - j)) : j < 7 ∧ n / 2 < 2 ^ (7 - (j + 1)) ∧ (2 : Nat) ^ (j + 1) = 2 * 2 ^ j ∧ (2 : Nat) ^ j ≤ 64 := by
  rcases (show j = 0 ∨ j = 1 ∨ j = 2 ∨ j = 3 ∨ j = 4 ∨ j = 5 ∨ j = 6 ∨ j = 7 by omega) with e | e | e | e | e | e | e | e <;> subst e <;> simp at h ⊢ <;> omega
theorem pow_le7 {j : Nat} (hj : j ≤ 7) : (2 : Nat) ^ j ≤ 128 := by
  rcases (show j = 0 ∨ j = 1 ∨ j = 2 ∨ j = 3 ∨ j = 4 ∨ j = 5 ∨ j = 6 ∨ j = 7 by omega) with e | e | e | e | e | e | e | e <;> subst e <;> decide
set_option maxHeartbeats 2000000 in
theorem many_any (s : ByteArray) (n : Int) (w : World) (hs : s.size ≤ 5) (h0 : 0 ≤ n) (h1 : n < 128) :
    Calls Tryz.prog 19 #[.string s, .int .i64 n] w fun e w' => ∃ x : ByteArray, x.size ≤ 640 ∧ e = .returned (.string x) ∧ w' = w := by
  go_enter Tryz.func19, Tryz.ntmps19
  go_wp2
  go_loopw [0, 1, 5] (fun a b c wr => ∃ (j : Nat) (x y : ByteArray) (m : Int), j ≤ 7 ∧ a = .string x ∧ b = .int .i64 m ∧ c = .string y ∧ Hid (x.size ≤ 5 * 2 ^ j) ∧ Hid (y.size ≤ 5 * 2 ^ j) ∧ 0 ≤ m ∧ m < 128 ∧ Hid (m < 2 ^ (7 - j)) ∧ wr = w) (fun _ b _ _ => (intOf b).toNat)
  case atStart => exact ⟨0, s, ⟨#[]⟩, n, by omega, rfl, rfl, rfl, Lib.hid (by omega), Lib.hid (by simp [ByteArray.size]), h0, h1, Lib.hid (by simpa using h1), rfl⟩
  case round =>
    obtain ⟨j, x, y, m, hj, rfl, rfl, rfl, hx, hy, hm0, hm1, hmj, rfl⟩ := hrel
    have hp := pow_le7 hj
    have hxs : x.size ≤ 640 := by have := hx.out; omega
    have hys : y.size ≤ 640 := by have := hy.out; omega
    clear hp
    by_cases hpos : 0 < m
    · obtain ⟨hj7, hd, hpw, -⟩ := half_pow hj hpos hmj.out
      have HJ := Lib.hid (show j + 1 ≤ 7 by omega)
      have HD := Lib.hid hd
      have m1 : Int.tdiv m 2 = m / 2 := Int.tdiv_eq_ediv_of_nonneg hm0
      have m2 : Int.tmod m 2 = m % 2 := Int.tmod_eq_emod_of_nonneg hm0
      have hq1 : ¬ 9223372036854775807 < y.size + x.size := by omega
      have hq2 : ¬ 9223372036854775807 < x.size + x.size := by omega
      have HX := Lib.hid (show (x ++ x).size ≤ 5 * 2 ^ (j + 1) by rw [ByteArray.size_append, hpw]; have := hx.out; omega)
      have HY1 := Lib.hid (show (y ++ x).size ≤ 5 * 2 ^ (j + 1) by rw [ByteArray.size_append, hpw]; have := hx.out; have := hy.out; omega)
      have HY2 := Lib.hid (show y.size ≤ 5 * 2 ^ (j + 1) by rw [hpw]; have := hy.out; omega)
      have hd0 : 0 ≤ m / 2 := by omega
      have hd1 : m / 2 < m := by omega
      have hd2 : m / 2 < 128 := by omega
      clear hd hpw hj7
      by_cases hodd : m % 2 = 1
      · have e1 : (m % 2 == 1) = true := by rw [hodd]; rfl
        clear hodd
        go_wp2
        go_roundw
        case rel => exact ⟨j + 1, x ++ x, y ++ x, m / 2, HJ.out, rfl, by go_num, rfl, HX, HY1, hd0, hd2, HD, trivial⟩
        case measure => simp [intOf]; omega
      · have e1 : (m % 2 == 1) = false := by rw [beq_eq_false_iff_ne]; exact hodd
        clear hodd
        go_wp2
        go_roundw
        case rel => exact ⟨j + 1, x ++ x, y, m / 2, HJ.out, rfl, by go_num, rfl, HX, HY2, hd0, hd2, HD, trivial⟩
        case measure => simp [intOf]; omega
    · have hm : ¬ (0 : Int) < m := hpos
      go_wp2
      go_ret
      exact ⟨y, hys, rfl, rfl⟩
/-- A string was drawn; the reader has moved on. -/
def StrDrawn (B g K n : Nat) (w : World) (e : Ending) (w' : World) : Prop := ∃ x : ByteArray, x.size ≤ n ∧ e = .returned (.string x) ∧ Rd w' B g K ∧ Only g w w'
set_option maxHeartbeats 2000000 in
theorem of_any (B g K b c n : Nat) (ss : List ByteArray) (w : World) (h : Rd w B g K) (hK : K ≤ 1000) (hb : Bk w b 9 (ss.map Value.string).toArray) (hn : ss.length = n) (h1 : 1 ≤ n) (h20 : n ≤ 20) (hgb : b ≠ g) (hsz : ∀ s, s ∈ ss → s.size ≤ 20) :
    Calls Tryz.prog 28 #[.pointer (some ⟨g, 0, none⟩), .slice (some ⟨b, 0, none⟩) n c] w (StrDrawn B g (K + 1) 20 w) := by
  go_enter Tryz.func28, Tryz.ntmps28
  go_wp2_with fail
  refine (pick_any _ _ _ _ _ h (by omega) (by omega)).mono ?_
  rintro e w_q ⟨q, rfl, q_0, q_1, hrd_q, ho_q, hsz_q⟩
  have q_u := q_1 (by omega)
  have hlt_q := hrd_q.lt
  clear q_1
  obtain ⟨k, rfl⟩ := Int.eq_ofNat_of_zero_le q_0
  have hk : k < n := by omega
  obtain ⟨x, hx⟩ : ∃ x, ss[k]? = some x := ⟨_, List.getElem?_eq_getElem (by omega)⟩
  have hck : w_q.cell? ⟨b, k, none⟩ = some (.string x) := by rw [(hb.only ho_q hgb).cell k]; simp [hx]
  have hxs := hsz x (List.mem_of_getElem? hx)
  have hk0 : (0 : Int) ≤ (k : Int) := Int.natCast_nonneg _
  have hk1 : (k : Int) < (n : Int) := by omega
  clear hx hsz hb hn
  go_wp2
  go_ret
  exact ⟨x, hxs, rfl, hrd_q, ho_q⟩
set_option maxHeartbeats 4000000 in
theorem sdline_any (B g K : Nat) (k : Nat) (w : World) (h : Rd w B g K) (hK : K ≤ 900) (hk : k ≤ 20) :
    Calls Tryz.prog 18 #[.pointer (some ⟨g, 0, none⟩), .int .i64 k] w (StrDrawn B g (K + 4) 20 w) := by
  have hgl := h.lt
  go_enter Tryz.func18, Tryz.ntmps18
  go_wp2_with fail
  refine (pick_any _ _ _ _ _ h (by omega) (by omega)).mono ?_
  rintro e w_q ⟨q, rfl, q_0, q_1, hrd_q, ho_q, hsz_q⟩
  have q_u := q_1 (by omega)
  have hlt_q := hrd_q.lt
  clear q_1
  have hq9 : q = 0 ∨ q = 1 ∨ q = 2 ∨ q = 3 ∨ q = 4 ∨ q = 5 ∨ q = 6 ∨ q = 7 ∨ q = 8 := by omega
  clear q_0 q_u
  rcases hq9 with rfl | rfl | rfl | rfl | rfl | rfl | rfl | rfl | rfl
  · go_wp2
    go_ret
    exact ⟨_, by decide, rfl, hrd_q.more (by omega), ho_q⟩
  · go_wp2
    go_ret
    exact ⟨_, by decide, rfl, hrd_q.more (by omega), ho_q⟩
  · have hnew := Bk.new w_q 9 (([⟨#[110, 101, 119]⟩, ⟨#[114, 105, 110, 103]⟩, ⟨#[119, 104, 97, 116]⟩, ⟨#[]⟩, ⟨#[112, 117, 116, 32, 49]⟩, ⟨#[107, 101, 121, 32, 48, 49, 32, 50]⟩, ⟨#[114, 101, 97, 100, 32, 49]⟩, ⟨#[119, 105, 100, 101, 32, 49]⟩, ⟨#[112, 117, 116, 32, 120, 32, 49]⟩] : List ByteArray).map Value.string).toArray
    have hall := fun o => (Below.refl w_q.heap.size w_q).alloc (Nat.le_refl _) o
    go_wp2_with (go_at_call 28; refine (of_any B g (K + 1) w_q.heap.size 9 9 _ _ (hrd_q.below (hall _)) (by omega) hnew rfl (by omega) (by omega) (by omega) (by decide)).mono ?_; rintro e w3 ⟨x, hx, rfl, hrd3, ho3⟩)
    go_ret
    exact ⟨x, hx, rfl, hrd3.more (by omega), (ho_q.trans (Only.of_below (hall _))).trans ho3⟩
  · go_wp2_with fail
    refine (pick_any _ _ _ _ _ hrd_q (by omega) (by omega)).mono ?_
    rintro e w_p ⟨p, rfl, p_0, p_1, hrd_p, ho_p, hsz_p⟩
    have p_u := p_1 (by omega)
    have hlt_p := hrd_p.lt
    clear p_1
    obtain ⟨l1, hl1⟩ : ∃ l1, dI (3 * (k : Int) + p) = l1 := ⟨_, rfl⟩
    obtain ⟨l2, hl2⟩ : ∃ l2, dI (30 * (k : Int)) = l2 := ⟨_, rfl⟩
    have h17 := dI_len (3 * (k : Int) + p)
    have h27 := dI_len (30 * (k : Int))
    have HD1 := Lib.hid (fun w => sdec_any (3 * (k : Int) + p) w (by omega) (by omega))
    have HD2 := Lib.hid (fun w => sdec_any (30 * (k : Int)) w (by omega) (by omega))
    rw [hl1] at HD1 h17
    rw [hl2] at HD2 h27
    unfold DecRet at HD1 HD2
    obtain ⟨m1, hm1⟩ : ∃ m1, [107, 101, 121, 32] ++ l1 = m1 := ⟨_, rfl⟩
    obtain ⟨m2, hm2⟩ : ∃ m2, m1 ++ [32] = m2 := ⟨_, rfl⟩
    obtain ⟨m3, hm3⟩ : ∃ m3, m2 ++ l2 = m3 := ⟨_, rfl⟩
    have ap1 := app_strD [107, 101, 121, 32] l1 m1 hm1
    have ap2 := app_strD m1 [32] m2 hm2
    have ap3 := app_strD m2 l2 m3 hm3
    have hk1 : m1.length ≤ 12 := by rw [← hm1]; simp; omega
    have hk2 : m2.length ≤ 13 := by rw [← hm2]; simp; omega
    have hk3 : m3.length ≤ 20 := by rw [← hm3]; simp; omega
    have hq1 : ¬ 9223372036854775807 < 4 + l1.length := by omega
    have hq2 : ¬ 9223372036854775807 < m1.length + 1 := by omega
    have hq3 : ¬ 9223372036854775807 < m2.length + l2.length := by omega
    have hsx : (⟨m3.toArray⟩ : ByteArray).size ≤ 20 := by show m3.toArray.size ≤ 20; simpa using hk3
    clear hl1 hl2 hm1 hm2 hm3
    go_wp2_with (go_at_call 27; first
      | (with_reducible refine (HD1.out _).mono ?_; rintro e w3 ⟨rfl, hb3⟩)
      | (with_reducible refine (HD2.out _).mono ?_; rintro e w4 ⟨rfl, hb4⟩))
    go_ret
    exact ⟨_, hsx, rfl, ((hrd_p.below hb3).below hb4).more (by omega), ((ho_q.trans ho_p).trans (Only.of_below hb3)).trans (Only.of_below hb4)⟩
  · go_wp2_with fail
    refine (pick_any _ _ _ _ _ hrd_q (by omega) (by omega)).mono ?_
    rintro e w_p ⟨p, rfl, p_0, p_1, hrd_p, ho_p, hsz_p⟩
    have p_u := p_1 (by omega)
    have hlt_p := hrd_p.lt
    clear p_1
    obtain ⟨l1, hl1⟩ : ∃ l1, dI (400 * p) = l1 := ⟨_, rfl⟩
    have h17 := dI_len (400 * p)
    have HD1 := Lib.hid (fun w => sdec_any (400 * p) w (by omega) (by omega))
    rw [hl1] at HD1 h17
    unfold DecRet at HD1
    obtain ⟨m1, hm1⟩ : ∃ m1, [119, 105, 100, 101, 32] ++ l1 = m1 := ⟨_, rfl⟩
    obtain ⟨m2, hm2⟩ : ∃ m2, m1 ++ [32] = m2 := ⟨_, rfl⟩
    have ap1 := app_strD [119, 105, 100, 101, 32] l1 m1 hm1
    have ap2 := app_strD m1 [32] m2 hm2
    have hk1 : m1.length ≤ 12 := by rw [← hm1]; simp; omega
    have hk2 : m2.length ≤ 13 := by rw [← hm2]; simp; omega
    have hq1 : ¬ 9223372036854775807 < 5 + l1.length := by omega
    have hq2 : ¬ 9223372036854775807 < m1.length + 1 := by omega
    clear hl1 hm1 hm2
    go_wp2_with (go_at_call 27; refine (HD1.out _).mono ?_; rintro e w3 ⟨rfl, hb3⟩)
    refine (pick_any _ _ _ _ _ (hrd_p.below hb3) (by omega) (by omega)).mono ?_
    rintro e w4 ⟨r, rfl, r0, r1, hrd4, ho4, -⟩
    have r2 := r1 (by omega)
    clear r1
    obtain ⟨l2, hl2⟩ : ∃ l2, dI (250 * r) = l2 := ⟨_, rfl⟩
    have h27 := dI_len (250 * r)
    have HD2 := Lib.hid (fun w => sdec_any (250 * r) w (by omega) (by omega))
    rw [hl2] at HD2 h27
    unfold DecRet at HD2
    obtain ⟨m3, hm3⟩ : ∃ m3, m2 ++ l2 = m3 := ⟨_, rfl⟩
    have ap3 := app_strD m2 l2 m3 hm3
    have hk3 : m3.length ≤ 20 := by rw [← hm3]; simp; omega
    have hq3 : ¬ 9223372036854775807 < m2.length + l2.length := by omega
    have hsx : (⟨m3.toArray⟩ : ByteArray).size ≤ 20 := by show m3.toArray.size ≤ 20; simpa using hk3
    clear hl2 hm3
    go_wp2_with (go_at_call 27; refine (HD2.out _).mono ?_; rintro e w5 ⟨rfl, hb5⟩)
    go_ret
    exact ⟨_, hsx, rfl, (hrd4.below hb5).more (by omega), (((ho_q.trans ho_p).trans (Only.of_below hb3)).trans ho4).trans (Only.of_below hb5)⟩
  · go_wp2
    go_ret
    exact ⟨_, by decide, rfl, hrd_q.more (by omega), ho_q⟩
  · go_wp2_with fail
    refine (pick_any _ _ _ _ _ hrd_q (by omega) (by omega)).mono ?_
    rintro e w_p ⟨p, rfl, p_0, p_1, hrd_p, ho_p, hsz_p⟩
    have p_u := p_1 (by omega)
    have hlt_p := hrd_p.lt
    clear p_1
    obtain ⟨l1, hl1⟩ : ∃ l1, dI (3 * (k : Int) + p) = l1 := ⟨_, rfl⟩
    obtain ⟨l2, hl2⟩ : ∃ l2, dI (30 * (k : Int)) = l2 := ⟨_, rfl⟩
    have h17 := dI_len (3 * (k : Int) + p)
    have h27 := dI_len (30 * (k : Int))
    have HD1 := Lib.hid (fun w => sdec_any (3 * (k : Int) + p) w (by omega) (by omega))
    have HD2 := Lib.hid (fun w => sdec_any (30 * (k : Int)) w (by omega) (by omega))
    rw [hl1] at HD1 h17
    rw [hl2] at HD2 h27
    unfold DecRet at HD1 HD2
    obtain ⟨m1, hm1⟩ : ∃ m1, [112, 117, 116, 32] ++ l1 = m1 := ⟨_, rfl⟩
    obtain ⟨m2, hm2⟩ : ∃ m2, m1 ++ [32] = m2 := ⟨_, rfl⟩
    obtain ⟨m3, hm3⟩ : ∃ m3, m2 ++ l2 = m3 := ⟨_, rfl⟩
    have ap1 := app_strD [112, 117, 116, 32] l1 m1 hm1
    have ap2 := app_strD m1 [32] m2 hm2
    have ap3 := app_strD m2 l2 m3 hm3
    have hk1 : m1.length ≤ 12 := by rw [← hm1]; simp; omega
    have hk2 : m2.length ≤ 13 := by rw [← hm2]; simp; omega
    have hk3 : m3.length ≤ 20 := by rw [← hm3]; simp; omega
    have hq1 : ¬ 9223372036854775807 < 4 + l1.length := by omega
    have hq2 : ¬ 9223372036854775807 < m1.length + 1 := by omega
    have hq3 : ¬ 9223372036854775807 < m2.length + l2.length := by omega
    have hsx : (⟨m3.toArray⟩ : ByteArray).size ≤ 20 := by show m3.toArray.size ≤ 20; simpa using hk3
    clear hl1 hl2 hm1 hm2 hm3
    go_wp2_with (go_at_call 27; first
      | (with_reducible refine (HD1.out _).mono ?_; rintro e w3 ⟨rfl, hb3⟩)
      | (with_reducible refine (HD2.out _).mono ?_; rintro e w4 ⟨rfl, hb4⟩))
    go_ret
    exact ⟨_, hsx, rfl, ((hrd_p.below hb3).below hb4).more (by omega), ((ho_q.trans ho_p).trans (Only.of_below hb3)).trans (Only.of_below hb4)⟩
  · go_wp2_with fail
    refine (pick_any _ _ _ _ _ hrd_q (by omega) (by omega)).mono ?_
    rintro e w_p ⟨p, rfl, p_0, p_1, hrd_p, ho_p, hsz_p⟩
    have p_u := p_1 (by omega)
    have hlt_p := hrd_p.lt
    clear p_1
    obtain ⟨l1, hl1⟩ : ∃ l1, dI (3 * (k : Int) + p) = l1 := ⟨_, rfl⟩
    obtain ⟨l2, hl2⟩ : ∃ l2, dI (30 * (k : Int)) = l2 := ⟨_, rfl⟩
    have h17 := dI_len (3 * (k : Int) + p)
    have h27 := dI_len (30 * (k : Int))
    have HD1 := Lib.hid (fun w => sdec_any (3 * (k : Int) + p) w (by omega) (by omega))
    have HD2 := Lib.hid (fun w => sdec_any (30 * (k : Int)) w (by omega) (by omega))
    rw [hl1] at HD1 h17
    rw [hl2] at HD2 h27
    unfold DecRet at HD1 HD2
    obtain ⟨m1, hm1⟩ : ∃ m1, [112, 117, 116, 32] ++ l1 = m1 := ⟨_, rfl⟩
    obtain ⟨m2, hm2⟩ : ∃ m2, m1 ++ [32] = m2 := ⟨_, rfl⟩
    obtain ⟨m3, hm3⟩ : ∃ m3, m2 ++ l2 = m3 := ⟨_, rfl⟩
    have ap1 := app_strD [112, 117, 116, 32] l1 m1 hm1
    have ap2 := app_strD m1 [32] m2 hm2
    have ap3 := app_strD m2 l2 m3 hm3
    have hk1 : m1.length ≤ 12 := by rw [← hm1]; simp; omega
    have hk2 : m2.length ≤ 13 := by rw [← hm2]; simp; omega
    have hk3 : m3.length ≤ 20 := by rw [← hm3]; simp; omega
    have hq1 : ¬ 9223372036854775807 < 4 + l1.length := by omega
    have hq2 : ¬ 9223372036854775807 < m1.length + 1 := by omega
    have hq3 : ¬ 9223372036854775807 < m2.length + l2.length := by omega
    have hsx : (⟨m3.toArray⟩ : ByteArray).size ≤ 20 := by show m3.toArray.size ≤ 20; simpa using hk3
    clear hl1 hl2 hm1 hm2 hm3
    go_wp2_with (go_at_call 27; first
      | (with_reducible refine (HD1.out _).mono ?_; rintro e w3 ⟨rfl, hb3⟩)
      | (with_reducible refine (HD2.out _).mono ?_; rintro e w4 ⟨rfl, hb4⟩))
    go_ret
    exact ⟨_, hsx, rfl, ((hrd_p.below hb3).below hb4).more (by omega), ((ho_q.trans ho_p).trans (Only.of_below hb3)).trans (Only.of_below hb4)⟩
  · go_wp2_with fail
    refine (pick_any _ _ _ _ _ hrd_q (by omega) (by omega)).mono ?_
    rintro e w_p ⟨p, rfl, p_0, p_1, hrd_p, ho_p, hsz_p⟩
    have p_u := p_1 (by omega)
    have hlt_p := hrd_p.lt
    clear p_1
    obtain ⟨l1, hl1⟩ : ∃ l1, dI (3 * (k : Int) + p) = l1 := ⟨_, rfl⟩
    obtain ⟨l2, hl2⟩ : ∃ l2, dI (30 * (k : Int)) = l2 := ⟨_, rfl⟩
    have h17 := dI_len (3 * (k : Int) + p)
    have h27 := dI_len (30 * (k : Int))
    have HD1 := Lib.hid (fun w => sdec_any (3 * (k : Int) + p) w (by omega) (by omega))
    have HD2 := Lib.hid (fun w => sdec_any (30 * (k : Int)) w (by omega) (by omega))
    rw [hl1] at HD1 h17
    rw [hl2] at HD2 h27
    unfold DecRet at HD1 HD2
    obtain ⟨m1, hm1⟩ : ∃ m1, [112, 117, 116, 32] ++ l1 = m1 := ⟨_, rfl⟩
    obtain ⟨m2, hm2⟩ : ∃ m2, m1 ++ [32] = m2 := ⟨_, rfl⟩
    obtain ⟨m3, hm3⟩ : ∃ m3, m2 ++ l2 = m3 := ⟨_, rfl⟩
    have ap1 := app_strD [112, 117, 116, 32] l1 m1 hm1
    have ap2 := app_strD m1 [32] m2 hm2
    have ap3 := app_strD m2 l2 m3 hm3
    have hk1 : m1.length ≤ 12 := by rw [← hm1]; simp; omega
    have hk2 : m2.length ≤ 13 := by rw [← hm2]; simp; omega
    have hk3 : m3.length ≤ 20 := by rw [← hm3]; simp; omega
    have hq1 : ¬ 9223372036854775807 < 4 + l1.length := by omega
    have hq2 : ¬ 9223372036854775807 < m1.length + 1 := by omega
    have hq3 : ¬ 9223372036854775807 < m2.length + l2.length := by omega
    have hsx : (⟨m3.toArray⟩ : ByteArray).size ≤ 20 := by show m3.toArray.size ≤ 20; simpa using hk3
    clear hl1 hl2 hm1 hm2 hm3
    go_wp2_with (go_at_call 27; first
      | (with_reducible refine (HD1.out _).mono ?_; rintro e w3 ⟨rfl, hb3⟩)
      | (with_reducible refine (HD2.out _).mono ?_; rintro e w4 ⟨rfl, hb4⟩))
    go_ret
    exact ⟨_, hsx, rfl, ((hrd_p.below hb3).below hb4).more (by omega), ((ho_q.trans ho_p).trans (Only.of_below hb3)).trans (Only.of_below hb4)⟩
set_option maxHeartbeats 4000000 in
theorem draw_exec (A : Option Addr) (n c : Nat) (w : World) (h : Bytes w w.heap.size A n) (hnc : n ≤ c) (hc : c ≤ maxLen) :
    Calls Tryz.prog 11 #[.slice A n c] w fun e w' => ∃ x : ByteArray, x.size ≤ 2000 ∧ e = .returned (.string x) ∧ Below w.heap.size w w' := by
  go_enter Tryz.func11, Tryz.ntmps11
  go_wp2_with fail
  refine (open_any A n c _ h hnc hc).mono ?_
  rintro e w1 ⟨rfl, hrd, hb⟩
  go_wp2_with fail
  refine (pick_any _ _ _ _ _ hrd (by omega) (by omega)).mono ?_
  rintro e w_r ⟨r, rfl, r_0, r_1, hrd_r, ho_r, hsz_r⟩
  have r_u := r_1 (by omega)
  have hlt_r := hrd_r.lt
  clear r_1
  obtain ⟨m, rfl⟩ := Int.eq_ofNat_of_zero_le r_0
  have hb2 : Below w.heap.size w w_r := hb.trans (ho_r.below (Nat.le_refl _) hb.size)
  clear hrd ho_r hsz_r hb
  go_wp2
  go_loopw [4, 6] (fun o i wr => ∃ (k K : Nat) (x : ByteArray), k ≤ m ∧ i = .int .i64 k ∧ o = .string x ∧ x.size ≤ 21 * k ∧ K ≤ 4 * k + 1 ∧ Rd wr w.heap.size w.heap.size K ∧ Hid (Below w.heap.size w wr)) (fun _ i _ => m - (intOf i).toNat)
  case atStart => exact ⟨0, 1, ⟨#[]⟩, by omega, rfl, rfl, by decide, by omega, hrd_r, Lib.hid hb2⟩
  case round =>
    obtain ⟨k, K, x, hkm, rfl, rfl, hx, hK, hrd, hB⟩ := hrel
    have hNs := hrd.lt.2
    by_cases hlt : k < m
    · have HL := Lib.hid (sdline_any w.heap.size w.heap.size K k wr hrd (by omega) (by omega))
      go_wp2_with (go_at_call 18; refine HL.out.mono ?_; rintro e w3 ⟨y, hy, rfl, hrd3, ho3⟩; have hq1 : ¬ 9223372036854775807 < x.size + y.size := (by omega); have hq2 : ¬ 9223372036854775807 < x.size + y.size + 1 := (by omega))
      go_roundw
      case rel => exact ⟨k + 1, K + 4, _, by omega, by go_num, rfl, by simp only [ByteArray.size_append]; show x.size + y.size + 1 ≤ _; omega, by omega, hrd3, Lib.hid (hB.out.trans (ho3.below (Nat.le_refl _) hB.out.size))⟩
      case measure => simp [intOf]; omega
    · have hk' : k = m := by omega
      subst hk'
      go_wp2_with fail
      refine (pick_any _ _ _ _ _ hrd (by omega) (by omega)).mono ?_
      rintro e w_q ⟨q, rfl, q_0, q_1, hrd_q, ho_q, hsz_q⟩
      have q_u := q_1 (by omega)
      have hlt_q := hrd_q.lt
      clear q_1
      have HB := Lib.hid (hB.out.trans (ho_q.below (Nat.le_refl _) hB.out.size))
      have hq3 : q = 0 ∨ q = 1 ∨ q = 2 ∨ 3 ≤ q := by omega
      rcases hq3 with rfl | rfl | rfl | h3
      · go_wp2_with fail
        refine (pick_any _ _ _ _ _ hrd_q (by omega) (by omega)).mono ?_
        rintro e w_p ⟨p, rfl, p_0, p_1, hrd_p, ho_p, hsz_p⟩
        have p_u := p_1 (by omega)
        have hlt_p := hrd_p.lt
        clear p_1
        have HB2 := Lib.hid (HB.out.trans (ho_p.below (Nat.le_refl _) HB.out.size))
        have HM := Lib.hid (fun w => many_any ⟨#[114, 105, 110, 103, 10]⟩ (96 + p) w (by decide) (by omega) (by omega))
        go_wp2_with (go_at_call 19; refine (HM.out _).mono ?_; rintro e w3 ⟨y, hy, rfl, rfl⟩; have hq1 : ¬ 9223372036854775807 < x.size + y.size := by omega)
        go_ret
        exact ⟨_, by simp only [ByteArray.size_append]; omega, rfl, HB2.out⟩
      · have hq1 : ¬ 9223372036854775807 < x.size + 4 := by omega
        go_wp2
        go_ret
        exact ⟨_, by simp only [ByteArray.size_append]; show x.size + 4 ≤ _; omega, rfl, HB.out⟩
      · have hq1 : ¬ 9223372036854775807 < x.size + 4 := by omega
        go_wp2
        go_ret
        exact ⟨_, by simp only [ByteArray.size_append]; show x.size + 4 ≤ _; omega, rfl, HB.out⟩
      · have e0 : (q == 0) = false := by simp; omega
        have e1 : (q == 1) = false := by simp; omega
        have e2 : (q == 2) = false := by simp; omega
        clear h3 q_0 q_u
        go_wp2
        go_ret
        exact ⟨x, by omega, rfl, HB.out⟩
end Go.Proofs.YthbkmnladaneaaaGreatDoor
