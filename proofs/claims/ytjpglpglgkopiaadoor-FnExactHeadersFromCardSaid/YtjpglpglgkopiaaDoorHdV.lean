/-
  Headers: what is drawn: bytes that are often a header.
  Conditions: the code's memory.
-/
import Derived.Test.YtjpglpglgkopiaaDoorHdW
import Derived.Test.YtjpglpglgkopiaaDoorHdC
import Derived.Test.YtjpglpglgkopiaaDoorSet
namespace Go.Proofs.YtjpglpglgkopiaaDoor
open Go.RowKit
set_option linter.unusedVariables false
set_option linter.unusedSimpArgs false

/-- What the slots hold of the region that makes the number near. -/
def IHv (g gp : Nat) (v0 : Value) : Nat → Value → World → Prop
  | 0, v, _ => v = .pointer (some ⟨gp, 0, none⟩)
  | 2, v, _ => v = .pointer (some ⟨g, 0, none⟩)
  | 5, v, _ => v = .pointer (some ⟨g, 0, none⟩)
  | 10, v, _ => v = v0
  | 12, v, _ => v = v0
  | _, v, _ => VAny v
theorem IHv.mono {g gp : Nat} {v0 : Value} (j : Nat) (v : Value) (w w' : World) (R : True) (h : IHv g gp v0 j v w) : IHv g gp v0 j v w' := by
  unfold IHv at *
  split at h <;> exact h

/-- A number and bytes were drawn, from a code. -/
def HvDrawn (w : World) (e : Ending) (w' : World) : Prop := ∃ (near : Int) (A : Option Addr) (n c : Nat) (zs : List Int), e = .returned (.tuple #[.int .i64 near, .slice A n c]) ∧ Ints w' w'.heap.size A n zs ∧ n ≤ c ∧ c ≤ maxLen ∧ n ≤ 1000 ∧ Below w.heap.size w w'

set_option maxHeartbeats 4000000 in
set_option maxRecDepth 100000 in
theorem draw_hv (A : Option Addr) (n c : Nat) (w : World) (h : Bytes w w.heap.size A n) (hnc : n ≤ c) (hc : c ≤ maxLen) :
    Calls Tryd.prog 21 #[.slice A n c] w (HvDrawn w) := by
  go_enter Tryd.func21, Tryd.ntmps21
  go_wp2_with fail
  refine (open_any A n c _ h hnc hc).mono ?_
  rintro e w1 ⟨rfl, hrd, hb1⟩
  have hl1 := hrd.lt
  go_wp2_with fail
  refine (l91Packet_any _ _ _ _ hrd (by omega)).mono ?_
  rintro e w2 ⟨x, rfl, hrd2, ho⟩
  have hB2 := hb1.trans (ho.below (by omega) hb1.size)
  have hl2 := hrd2.lt
  have hb3 : Below w2.heap.size w2 (w2.alloc (.cells #[.int .i64 x.wi, .int .i64 x.ti, .int .i64 x.la, .int .i64 x.si, .bool x.ky, .bool x.en] 24)) := (by repeat (first | exact Below.refl _ _ | assumption | refine Below.setCell ?_ (by first | omega | (simp; done) | (simp; omega)) _ | refine Below.alloc ?_ (by first | omega | (simp; done) | (simp; omega)) _ | refine Below.drew ?_ | refine Below.drewN' ?_ _ | refine Below.trans ?_ (Below.mono (by assumption) (by first | omega | (simp; done) | (simp; omega)))))
  have hP := Bk.new w2 24 #[.int .i64 x.wi, .int .i64 x.ti, .int .i64 x.la, .int .i64 x.si, .bool x.ky, .bool x.en]
  have hB3 := hB2.trans (hb3.mono hB2.size)
  have hrd3 := hrd2.below hb3
  have hgp : w.heap.size < w2.heap.size := hl2.2
  have HB3 := Lib.hid hB3
  have HP := Lib.hid hP
  have HRD := Lib.hid hrd3
  (try clear hP_c0); (try clear hP_f0)
  (try clear hP_c1); (try clear hP_f1)
  (try clear hP_c2); (try clear hP_f2)
  (try clear hP_c3); (try clear hP_f3)
  (try clear hP_c4); (try clear hP_f4)
  (try clear hP_c5); (try clear hP_f5)
  (try clear hP_lt)
  have hP_lt := hP.lt; (try simp only [World.size_alloc] at hP_lt)
  have hP_c0 := hP.cell 0; have hP_f0 := hP.frozen 0
  have hP_c1 := hP.cell 1; have hP_f1 := hP.frozen 1
  have hP_c2 := hP.cell 2; have hP_f2 := hP.frozen 2
  have hP_c3 := hP.cell 3; have hP_f3 := hP.frozen 3
  have hP_c4 := hP.cell 4; have hP_f4 := hP.frozen 4
  have hP_c5 := hP.cell 5; have hP_f5 := hP.frozen 5
  simp only [List.getElem?_toArray, List.getElem?_cons_zero, List.getElem?_cons_succ] at hP_c0 hP_c1 hP_c2 hP_c3 hP_c4 hP_c5
  clear hrd ho hrd2 hb1 hB2 hb3 hl1 hP hB3 hrd3
  go_wp2_with fail
  refine (shb_any x _).mono ?_
  rintro e w4 ⟨hy, hn⟩
  (try clear hP_c0); (try clear hP_f0)
  (try clear hP_c1); (try clear hP_f1)
  (try clear hP_c2); (try clear hP_f2)
  (try clear hP_c3); (try clear hP_f3)
  (try clear hP_c4); (try clear hP_f4)
  (try clear hP_c5); (try clear hP_f5)
  (try clear hP_lt)
  by_cases hk : pkOk x
  rotate_left
  · obtain ⟨⟨A4, c4, rfl⟩, hb4⟩ := hn hk
    have hB4 := HB3.out.trans (hb4.mono HB3.out.size)
    have hs4 := hB4.size
    clear hy hn hb4
    go_wp2
    go_ret2
    refine ⟨0, _, 8, 8, [0, 5, 0, 0, 9, 3, 0, 9], rfl, ints_own (base := w.heap.size) (c := 8) (own_bk (r := []) (by rw [List.append_nil]; exact Bk.new _ _ _) hs4 (by simp) rfl (Nat.le_refl _) (by unfold maxLen; omega) (one_is _)), by omega, by unfold maxLen; omega, by omega, hB4.alloc hs4 _⟩
  obtain ⟨⟨A4, c2, rfl, hown4⟩, hb4⟩ := hy hk
  have hB4 := HB3.out.trans (hb4.mono HB3.out.size)
  have HP4 := Lib.hid (HP.out.below hb4 HP.out.lt)
  have hrd4 := HRD.out.below hb4
  obtain ⟨g4, c4, he4, hg4, hg4l, h8c, hcm2⟩ := own_head hown4 (by omega)
  injection he4 with hA4 _ hc4
  subst hA4 hc4
  have hgx : w2.heap.size < g4 := by simp at hg4; omega
  have HO4 := Lib.hid (own_more hown4 (base' := w2.heap.size) (by simp))
  generalize w2.heap.size = gp at *
  have HB4 := Lib.hid hB4
  clear hy hn hb4 hown4 hB4 HRD HP HB3
  go_wp2_with fail
  refine (pick_any _ _ _ _ _ hrd4 (by omega) (by omega)).mono ?_
  rintro e w_k ⟨k, rfl, k_0, k_1, hrd_k, ho_k, hsz_k⟩
  have k_u := k_1 (by omega)
  have hlt_k := hrd_k.lt
  clear k_1
  go_wp2_with fail
  refine (pick_any _ _ _ _ _ hrd_k (by omega) (by omega)).mono ?_
  rintro e w_s ⟨s, rfl, s_0, s_1, hrd_s, ho_s, hsz_s⟩
  have s_u := s_1 (by omega)
  have hlt_s := hrd_s.lt
  clear s_1
  have hO6 : Only w.heap.size w4 w_s := ho_k.trans ho_s
  have HO6 := Lib.hid (own_only HO4.out hO6 (by omega))
  have HP6 := Lib.hid (HP4.out.only hO6 (by omega))
  have HB6 := Lib.hid (HB4.out.trans (hO6.below (Nat.le_refl _) HB4.out.size))
  obtain ⟨k, rfl⟩ := Int.eq_ofNat_of_zero_le k_0
  have hk8 : k < 8 := by omega
  clear ho_k ho_s hsz_k hsz_s hrd_k hO6 HO4 HP4 HB4
  by_cases hs0 : s = 0
  · subst hs0
    have e0 : ((0 : Int) == 0) = true := rfl
    go_wp2_with fail
    refine (pick_any _ _ _ _ _ hrd_s (by omega) (by omega)).mono ?_
    rintro e w_v ⟨v, rfl, v_0, v_1, hrd_v, ho_v, hsz_v⟩
    have v_u := v_1 (by omega)
    have hlt_v := hrd_v.lt
    clear v_1
    have HO7 := Lib.hid (own_only HO6.out ho_v (by omega))
    have HP7 := Lib.hid (HP6.out.only ho_v (by omega))
    have HB7 := Lib.hid (HB6.out.trans (ho_v.below (Nat.le_refl _) HB6.out.size))
    obtain ⟨z, hz⟩ : ∃ z, (hB x)[k]? = some z := ⟨_, List.getElem?_eq_getElem (by rw [hB_len]; exact hk8)⟩
    have hck := own_cell HO7.out (i := k) (u := .int .i64 z) (by rw [List.getElem?_map, hz]; rfl)
    have hfk := own_free HO7.out k
    clear ho_v hsz_v hz
    have HOX := Lib.hid (show (w_v.setCell ⟨g4, k, none⟩ (.int .i64 (v - 1))).ownsRow _ 3 1 (.slice (some ⟨g4, 0, none⟩) 8 c2) 8 (((hB x).set k (v - 1)).map (Value.int .i64)) by have := own_set HO7.out (j := k) (.int .i64 (v - 1)); rwa [← List.map_set] at this)
    have HPX := Lib.hid (HP7.out.far (p := ⟨g4, k, none⟩) (by show gp ≠ g4; omega) (.int .i64 (v - 1)))
    have HBX := Lib.hid (HB7.out.setCell (p := ⟨g4, k, none⟩) (by show w.heap.size ≤ g4; omega) (.int .i64 (v - 1)))
    have hrx := (Rd.setCell (p := ⟨g4, k, none⟩) hrd_v (by show w.heap.size < g4; omega) (.int .i64 (v - 1))).more (K' := 20) (by omega)
    clear HO7 HP7 HB7 HO6 HP6 HB6 hrd_v hrd_s
    go_wp2_with fail
    generalize w_v.setCell ⟨g4, k, none⟩ (.int .i64 (v - 1)) = wx at *
    obtain ⟨zx, hzx⟩ : ∃ zx, (hB x).set k (v - 1) = zx := ⟨_, rfl⟩
    rw [hzx] at HOX
    obtain ⟨A2, hA2⟩ : ∃ A2, some (⟨g4, 0, none⟩ : Addr) = A2 := ⟨_, rfl⟩
    rw [hA2] at HOX ⊢
    clear hzx hA2 hck hfk
    have hgpl := HPX.out.lt
    refine wp_region_inv (fun n w' => Rd w' (w.heap.size) (w.heap.size) (20 + n) ∧ Only w.heap.size wx w') (fun _ _ => True) (IHv w.heap.size gp (.slice A2 8 c2)) (by kernel_rfl) (by kernel_rfl) (by kernel_rfl) ⟨Rd.drew hrx, Only.drew (Only.refl _ _)⟩ IHv.mono ⟨?_, ?_, ?_, ?_, ?_, ?_, ?_, ?_, ?_, ?_, ?_, ?_, ?_, trivial⟩ ?_
    · intro m y wv hm hb hd
      have HB := Lib.hid hb
      clear hd hb
      refine ⟨?_⟩
      simp only [fill, Act.put, List.setIfInBounds_toArray, List.set_cons_zero, List.set_cons_succ]
      go_simp
      exact ⟨⟨HB.out.1.more (by omega), HB.out.2⟩, rfl⟩
    · intro m y wv hm hb hd
      have d0 := hd { on := 0, ground := .data } (by simp) (by kernel_rfl)
      replace d0 : y 0 = .pointer (some ⟨gp, 0, none⟩) := d0
      have hq := HPX.out.only hb.2 (by omega)
      have HB := Lib.hid hb
      (try clear hq_c0); (try clear hq_f0)
      (try clear hq_c1); (try clear hq_f1)
      (try clear hq_c2); (try clear hq_f2)
      (try clear hq_c3); (try clear hq_f3)
      (try clear hq_c4); (try clear hq_f4)
      (try clear hq_c5); (try clear hq_f5)
      (try clear hq_lt)
      have hq_lt := hq.lt; (try simp only [World.size_alloc] at hq_lt)
      have hq_c0 := hq.cell 0; have hq_f0 := hq.frozen 0
      have hq_c1 := hq.cell 1; have hq_f1 := hq.frozen 1
      have hq_c2 := hq.cell 2; have hq_f2 := hq.frozen 2
      have hq_c3 := hq.cell 3; have hq_f3 := hq.frozen 3
      have hq_c4 := hq.cell 4; have hq_f4 := hq.frozen 4
      have hq_c5 := hq.cell 5; have hq_f5 := hq.frozen 5
      simp only [List.getElem?_toArray, List.getElem?_cons_zero, List.getElem?_cons_succ] at hq_c0 hq_c1 hq_c2 hq_c3 hq_c4 hq_c5
      clear hd hb
      refine ⟨?_⟩
      simp only [fill, Act.put, List.setIfInBounds_toArray, List.set_cons_zero, List.set_cons_succ]
      go_simp
      exact ⟨⟨HB.out.1.more (by omega), HB.out.2⟩, _, rfl⟩
    · intro m y wv hm hb hd
      have HB := Lib.hid hb
      clear hd hb
      refine ⟨?_⟩
      simp only [fill, Act.put, List.setIfInBounds_toArray, List.set_cons_zero, List.set_cons_succ]
      go_simp
      exact ⟨⟨HB.out.1.more (by omega), HB.out.2⟩, rfl⟩
    · intro m y wv hm hb hd
      have d0 := hd { on := 2, ground := .data } (by simp) (by kernel_rfl)
      replace d0 : y 2 = .pointer (some ⟨w.heap.size, 0, none⟩) := d0
      obtain ⟨hb1, hb2⟩ := hb
      replace hm : m < 13 := hm
      have HB2 := Lib.hid hb2
      clear hd hb2
      refine ⟨?_⟩
      simp only [fill, Act.put, List.setIfInBounds_toArray, List.set_cons_zero, List.set_cons_succ]
      go_simp
      refine (pick_any _ _ _ _ _ hb1 (by omega) (by omega)).mono ?_
      rintro e w2 ⟨r, rfl, r0, r1, hrd2, ho2, _⟩
      exact ⟨⟨hrd2.more (by omega), HB2.out.trans ho2⟩, r, rfl⟩
    · intro m y wv hm hb hd
      have d3 := hd { on := 3, ground := .data } (by simp) (by kernel_rfl)
      obtain ⟨z3, hx3⟩ := d3
      have HB := Lib.hid hb
      clear hd hb
      refine ⟨?_⟩
      simp only [fill, Act.put, List.setIfInBounds_toArray, List.set_cons_zero, List.set_cons_succ]
      go_simp
      exact ⟨⟨HB.out.1.more (by omega), HB.out.2⟩, _, rfl⟩
    · intro m y wv hm hb hd
      have HB := Lib.hid hb
      clear hd hb
      refine ⟨?_⟩
      simp only [fill, Act.put, List.setIfInBounds_toArray, List.set_cons_zero, List.set_cons_succ]
      go_simp
      exact ⟨⟨HB.out.1.more (by omega), HB.out.2⟩, rfl⟩
    · intro m y wv hm hb hd
      have d0 := hd { on := 5, ground := .data } (by simp) (by kernel_rfl)
      replace d0 : y 5 = .pointer (some ⟨w.heap.size, 0, none⟩) := d0
      obtain ⟨hb1, hb2⟩ := hb
      replace hm : m < 13 := hm
      have HB2 := Lib.hid hb2
      clear hd hb2
      refine ⟨?_⟩
      simp only [fill, Act.put, List.setIfInBounds_toArray, List.set_cons_zero, List.set_cons_succ]
      go_simp
      refine (pick_any _ _ _ _ _ hb1 (by omega) (by omega)).mono ?_
      rintro e w2 ⟨r, rfl, r0, r1, hrd2, ho2, _⟩
      exact ⟨⟨hrd2.more (by omega), HB2.out.trans ho2⟩, r, rfl⟩
    · intro m y wv hm hb hd
      have d4 := hd { on := 4, ground := .data } (by simp) (by kernel_rfl)
      obtain ⟨z4, hx4⟩ := d4
      have d6 := hd { on := 6, ground := .data } (by simp) (by kernel_rfl)
      obtain ⟨z6, hx6⟩ := d6
      have HB := Lib.hid hb
      clear hd hb
      refine ⟨?_⟩
      simp only [fill, Act.put, List.setIfInBounds_toArray, List.set_cons_zero, List.set_cons_succ]
      go_simp
      exact ⟨⟨HB.out.1.more (by omega), HB.out.2⟩, _, rfl⟩
    · intro m y wv hm hb hd
      have d1 := hd { on := 1, ground := .data } (by simp) (by kernel_rfl)
      obtain ⟨z1, hx1⟩ := d1
      have d7 := hd { on := 7, ground := .data } (by simp) (by kernel_rfl)
      obtain ⟨z7, hx7⟩ := d7
      have HB := Lib.hid hb
      clear hd hb
      refine ⟨?_⟩
      simp only [fill, Act.put, List.setIfInBounds_toArray, List.set_cons_zero, List.set_cons_succ]
      go_simp
      exact ⟨⟨HB.out.1.more (by omega), HB.out.2⟩, _, rfl⟩
    · intro m y wv hm hb hd
      have d8 := hd { on := 8, ground := .data } (by simp) (by kernel_rfl)
      obtain ⟨z8, hx8⟩ := d8
      have HB := Lib.hid hb
      clear hd hb
      refine ⟨?_⟩
      simp only [fill, Act.put, List.setIfInBounds_toArray, List.set_cons_zero, List.set_cons_succ]
      go_simp
      exact ⟨⟨HB.out.1.more (by omega), HB.out.2⟩, _, rfl⟩
    · intro m y wv hm hb hd
      have HB := Lib.hid hb
      clear hd hb
      refine ⟨?_⟩
      simp only [fill, Act.put, List.setIfInBounds_toArray, List.set_cons_zero, List.set_cons_succ]
      go_simp
      exact ⟨⟨HB.out.1.more (by omega), HB.out.2⟩, rfl⟩
    · intro m y wv hm hb hd
      have d9 := hd { on := 9, ground := .data } (by simp) (by kernel_rfl)
      obtain ⟨z9, hx9⟩ := d9
      have HB := Lib.hid hb
      clear hd hb
      refine ⟨?_⟩
      simp only [fill, Act.put, List.setIfInBounds_toArray, List.set_cons_zero, List.set_cons_succ]
      go_simp
      exact ⟨⟨HB.out.1.more (by omega), HB.out.2⟩, _, rfl⟩
    · intro m y wv hm hb hd
      have d0 := hd { on := 10, ground := .data } (by simp) (by kernel_rfl)
      replace d0 : y 10 = .slice A2 8 c2 := d0
      have HB := Lib.hid hb
      clear hd hb
      refine ⟨?_⟩
      simp only [fill, Act.put, List.setIfInBounds_toArray, List.set_cons_zero, List.set_cons_succ]
      go_simp
      exact ⟨⟨HB.out.1.more (by omega), HB.out.2⟩, rfl⟩
    · intro y w9 ⟨hcr, hbt⟩ hI
      obtain ⟨r2, hr2⟩ : ∃ r : Int, y 11 = .int .i64 r := hI 11 (by decide)
      have hr3 : y 12 = .slice A2 8 c2 := hI 12 (by decide)
      have hB9 : Below w.heap.size w w9 := HBX.out.trans (hbt.below (Nat.le_refl _) HBX.out.size)
      have HO9 := Lib.hid (own_only HOX.out hbt (by omega))
      clear hI hbt hcr
      refine ⟨?_⟩
      simp only [fill, Act.put, List.setIfInBounds_toArray, List.set_cons_zero, List.set_cons_succ]
      rw [hr2, hr3]
      go_wp2
      go_ret2
      exact ⟨r2, A2, 8, c2, zx, rfl, ints_own HO9.out, h8c, hcm2, by omega, hB9⟩
  · have e0 : (s == 0) = false := by simpa using hs0
    by_cases hs1 : s = 1
    · subst hs1
      have hp6 := HP6.out
      (try clear hp6_c0); (try clear hp6_f0)
      (try clear hp6_c1); (try clear hp6_f1)
      (try clear hp6_c2); (try clear hp6_f2)
      (try clear hp6_c3); (try clear hp6_f3)
      (try clear hp6_c4); (try clear hp6_f4)
      (try clear hp6_c5); (try clear hp6_f5)
      (try clear hp6_lt)
      have hp6_lt := hp6.lt; (try simp only [World.size_alloc] at hp6_lt)
      have hp6_c0 := hp6.cell 0; have hp6_f0 := hp6.frozen 0
      have hp6_c1 := hp6.cell 1; have hp6_f1 := hp6.frozen 1
      have hp6_c2 := hp6.cell 2; have hp6_f2 := hp6.frozen 2
      have hp6_c3 := hp6.cell 3; have hp6_f3 := hp6.frozen 3
      have hp6_c4 := hp6.cell 4; have hp6_f4 := hp6.frozen 4
      have hp6_c5 := hp6.cell 5; have hp6_f5 := hp6.frozen 5
      simp only [List.getElem?_toArray, List.getElem?_cons_zero, List.getElem?_cons_succ] at hp6_c0 hp6_c1 hp6_c2 hp6_c3 hp6_c4 hp6_c5
      have hk0 : (0 : Int) ≤ (k : Int) := Int.natCast_nonneg _
      have hkc : k ≤ c2 := by omega
      have hkc' : (k : Int) ≤ (c2 : Int) := by omega
      go_wp2_with fail
      go_quiet (fail)
      go_wp2
      go_ret2
      refine ⟨x.wi, _, k, c2, (hB x).take k, rfl, ?_, hkc, hcm2, by omega, Below.drewN' HB6.out nq⟩
      have h1 := (Sl.of_own HO6.out).take_ (k := k) (by omega)
      rw [Nat.mul_one, ← List.map_take] at h1
      exact h1
    · have e1 : (s == 1) = false := by simpa using hs1
      go_wp2_with fail
      have HOX := HO6
      have HPX := HP6
      have HBX := HB6
      have hrx := hrd_s.more (K' := 20) (by omega)
      generalize w_s = wx at *
      obtain ⟨zx, hzx⟩ : ∃ zx, hB x = zx := ⟨_, rfl⟩
      rw [hzx] at HOX
      obtain ⟨A2, hA2⟩ : ∃ A2, some (⟨g4, 0, none⟩ : Addr) = A2 := ⟨_, rfl⟩
      rw [hA2] at HOX ⊢
      clear hzx hA2
      have hgpl := HPX.out.lt
      refine wp_region_inv (fun n w' => Rd w' (w.heap.size) (w.heap.size) (20 + n) ∧ Only w.heap.size wx w') (fun _ _ => True) (IHv w.heap.size gp (.slice A2 8 c2)) (by kernel_rfl) (by kernel_rfl) (by kernel_rfl) ⟨Rd.drew hrx, Only.drew (Only.refl _ _)⟩ IHv.mono ⟨?_, ?_, ?_, ?_, ?_, ?_, ?_, ?_, ?_, ?_, ?_, ?_, ?_, trivial⟩ ?_
      · intro m y wv hm hb hd
        have HB := Lib.hid hb
        clear hd hb
        refine ⟨?_⟩
        simp only [fill, Act.put, List.setIfInBounds_toArray, List.set_cons_zero, List.set_cons_succ]
        go_simp
        exact ⟨⟨HB.out.1.more (by omega), HB.out.2⟩, rfl⟩
      · intro m y wv hm hb hd
        have d0 := hd { on := 0, ground := .data } (by simp) (by kernel_rfl)
        replace d0 : y 0 = .pointer (some ⟨gp, 0, none⟩) := d0
        have hq := HPX.out.only hb.2 (by omega)
        have HB := Lib.hid hb
        (try clear hq_c0); (try clear hq_f0)
        (try clear hq_c1); (try clear hq_f1)
        (try clear hq_c2); (try clear hq_f2)
        (try clear hq_c3); (try clear hq_f3)
        (try clear hq_c4); (try clear hq_f4)
        (try clear hq_c5); (try clear hq_f5)
        (try clear hq_lt)
        have hq_lt := hq.lt; (try simp only [World.size_alloc] at hq_lt)
        have hq_c0 := hq.cell 0; have hq_f0 := hq.frozen 0
        have hq_c1 := hq.cell 1; have hq_f1 := hq.frozen 1
        have hq_c2 := hq.cell 2; have hq_f2 := hq.frozen 2
        have hq_c3 := hq.cell 3; have hq_f3 := hq.frozen 3
        have hq_c4 := hq.cell 4; have hq_f4 := hq.frozen 4
        have hq_c5 := hq.cell 5; have hq_f5 := hq.frozen 5
        simp only [List.getElem?_toArray, List.getElem?_cons_zero, List.getElem?_cons_succ] at hq_c0 hq_c1 hq_c2 hq_c3 hq_c4 hq_c5
        clear hd hb
        refine ⟨?_⟩
        simp only [fill, Act.put, List.setIfInBounds_toArray, List.set_cons_zero, List.set_cons_succ]
        go_simp
        exact ⟨⟨HB.out.1.more (by omega), HB.out.2⟩, _, rfl⟩
      · intro m y wv hm hb hd
        have HB := Lib.hid hb
        clear hd hb
        refine ⟨?_⟩
        simp only [fill, Act.put, List.setIfInBounds_toArray, List.set_cons_zero, List.set_cons_succ]
        go_simp
        exact ⟨⟨HB.out.1.more (by omega), HB.out.2⟩, rfl⟩
      · intro m y wv hm hb hd
        have d0 := hd { on := 2, ground := .data } (by simp) (by kernel_rfl)
        replace d0 : y 2 = .pointer (some ⟨w.heap.size, 0, none⟩) := d0
        obtain ⟨hb1, hb2⟩ := hb
        replace hm : m < 13 := hm
        have HB2 := Lib.hid hb2
        clear hd hb2
        refine ⟨?_⟩
        simp only [fill, Act.put, List.setIfInBounds_toArray, List.set_cons_zero, List.set_cons_succ]
        go_simp
        refine (pick_any _ _ _ _ _ hb1 (by omega) (by omega)).mono ?_
        rintro e w2 ⟨r, rfl, r0, r1, hrd2, ho2, _⟩
        exact ⟨⟨hrd2.more (by omega), HB2.out.trans ho2⟩, r, rfl⟩
      · intro m y wv hm hb hd
        have d3 := hd { on := 3, ground := .data } (by simp) (by kernel_rfl)
        obtain ⟨z3, hx3⟩ := d3
        have HB := Lib.hid hb
        clear hd hb
        refine ⟨?_⟩
        simp only [fill, Act.put, List.setIfInBounds_toArray, List.set_cons_zero, List.set_cons_succ]
        go_simp
        exact ⟨⟨HB.out.1.more (by omega), HB.out.2⟩, _, rfl⟩
      · intro m y wv hm hb hd
        have HB := Lib.hid hb
        clear hd hb
        refine ⟨?_⟩
        simp only [fill, Act.put, List.setIfInBounds_toArray, List.set_cons_zero, List.set_cons_succ]
        go_simp
        exact ⟨⟨HB.out.1.more (by omega), HB.out.2⟩, rfl⟩
      · intro m y wv hm hb hd
        have d0 := hd { on := 5, ground := .data } (by simp) (by kernel_rfl)
        replace d0 : y 5 = .pointer (some ⟨w.heap.size, 0, none⟩) := d0
        obtain ⟨hb1, hb2⟩ := hb
        replace hm : m < 13 := hm
        have HB2 := Lib.hid hb2
        clear hd hb2
        refine ⟨?_⟩
        simp only [fill, Act.put, List.setIfInBounds_toArray, List.set_cons_zero, List.set_cons_succ]
        go_simp
        refine (pick_any _ _ _ _ _ hb1 (by omega) (by omega)).mono ?_
        rintro e w2 ⟨r, rfl, r0, r1, hrd2, ho2, _⟩
        exact ⟨⟨hrd2.more (by omega), HB2.out.trans ho2⟩, r, rfl⟩
      · intro m y wv hm hb hd
        have d4 := hd { on := 4, ground := .data } (by simp) (by kernel_rfl)
        obtain ⟨z4, hx4⟩ := d4
        have d6 := hd { on := 6, ground := .data } (by simp) (by kernel_rfl)
        obtain ⟨z6, hx6⟩ := d6
        have HB := Lib.hid hb
        clear hd hb
        refine ⟨?_⟩
        simp only [fill, Act.put, List.setIfInBounds_toArray, List.set_cons_zero, List.set_cons_succ]
        go_simp
        exact ⟨⟨HB.out.1.more (by omega), HB.out.2⟩, _, rfl⟩
      · intro m y wv hm hb hd
        have d1 := hd { on := 1, ground := .data } (by simp) (by kernel_rfl)
        obtain ⟨z1, hx1⟩ := d1
        have d7 := hd { on := 7, ground := .data } (by simp) (by kernel_rfl)
        obtain ⟨z7, hx7⟩ := d7
        have HB := Lib.hid hb
        clear hd hb
        refine ⟨?_⟩
        simp only [fill, Act.put, List.setIfInBounds_toArray, List.set_cons_zero, List.set_cons_succ]
        go_simp
        exact ⟨⟨HB.out.1.more (by omega), HB.out.2⟩, _, rfl⟩
      · intro m y wv hm hb hd
        have d8 := hd { on := 8, ground := .data } (by simp) (by kernel_rfl)
        obtain ⟨z8, hx8⟩ := d8
        have HB := Lib.hid hb
        clear hd hb
        refine ⟨?_⟩
        simp only [fill, Act.put, List.setIfInBounds_toArray, List.set_cons_zero, List.set_cons_succ]
        go_simp
        exact ⟨⟨HB.out.1.more (by omega), HB.out.2⟩, _, rfl⟩
      · intro m y wv hm hb hd
        have HB := Lib.hid hb
        clear hd hb
        refine ⟨?_⟩
        simp only [fill, Act.put, List.setIfInBounds_toArray, List.set_cons_zero, List.set_cons_succ]
        go_simp
        exact ⟨⟨HB.out.1.more (by omega), HB.out.2⟩, rfl⟩
      · intro m y wv hm hb hd
        have d9 := hd { on := 9, ground := .data } (by simp) (by kernel_rfl)
        obtain ⟨z9, hx9⟩ := d9
        have HB := Lib.hid hb
        clear hd hb
        refine ⟨?_⟩
        simp only [fill, Act.put, List.setIfInBounds_toArray, List.set_cons_zero, List.set_cons_succ]
        go_simp
        exact ⟨⟨HB.out.1.more (by omega), HB.out.2⟩, _, rfl⟩
      · intro m y wv hm hb hd
        have d0 := hd { on := 10, ground := .data } (by simp) (by kernel_rfl)
        replace d0 : y 10 = .slice A2 8 c2 := d0
        have HB := Lib.hid hb
        clear hd hb
        refine ⟨?_⟩
        simp only [fill, Act.put, List.setIfInBounds_toArray, List.set_cons_zero, List.set_cons_succ]
        go_simp
        exact ⟨⟨HB.out.1.more (by omega), HB.out.2⟩, rfl⟩
      · intro y w9 ⟨hcr, hbt⟩ hI
        obtain ⟨r2, hr2⟩ : ∃ r : Int, y 11 = .int .i64 r := hI 11 (by decide)
        have hr3 : y 12 = .slice A2 8 c2 := hI 12 (by decide)
        have hB9 : Below w.heap.size w w9 := HBX.out.trans (hbt.below (Nat.le_refl _) HBX.out.size)
        have HO9 := Lib.hid (own_only HOX.out hbt (by omega))
        clear hI hbt hcr
        refine ⟨?_⟩
        simp only [fill, Act.put, List.setIfInBounds_toArray, List.set_cons_zero, List.set_cons_succ]
        rw [hr2, hr3]
        go_wp2
        go_ret2
        exact ⟨r2, A2, 8, c2, zx, rfl, ints_own HO9.out, h8c, hcm2, by omega, hB9⟩
end Go.Proofs.YtjpglpglgkopiaaDoor
