/-
  Demands, layers and budgets: the draws.
  Conditions: the code's memory.
-/
import Derived.Test.YthkoafcbcnobhaaShS
import Derived.Test.YthkoafcbcnobhaaInv
import Derived.Test.YthkoafcbcnobhaaSlots
import Derived.Test.YthkoafcbcnobhaaSeqD
namespace Go.Proofs.Ythkoafcbcnobhaa
open Go.RowKit
set_option linter.unusedVariables false
set_option linter.unusedSimpArgs false

theorem own_one {w : World} {base : Nat} {e : TypeId} {u : Value} (hb : base ≤ w.heap.size) : (w.alloc (.cells #[u] e)).ownsRow base e 1 (.slice (some ⟨w.heap.size, 0, none⟩) 1 1) 1 [u] :=
  ⟨by simp, .inr ⟨w.heap.size, 1, #[u], rfl, hb, heap_alloc_new w _, Nat.le_refl _, by unfold maxLen; omega, by simp, by simp⟩⟩
/-- Demands are drawn. -/
def DmDrawn (T : TypeId) (B g K : Nat) (w : World) (e : Ending) (w' : World) : Prop := ∃ (v : Value) (xs : List Dm), e = .returned v ∧ xs.length ≤ 7 ∧ w'.ownsRow w.heap.size T 4 v xs.length (xs.flatMap Dm.c) ∧ Rd w' B g K ∧ Only g w w'
theorem flat_setD (xs : List Dm) (j i : Nat) (hi : i < 4) (z : Int) (x y : Dm) (hx : xs[j]? = some x) (hy : y.c = x.c.set i (.int .i64 z)) : (xs.flatMap Dm.c).set (j * 4 + i) (.int .i64 z) = (xs.set j y).flatMap Dm.c := by
  have hj := (List.getElem?_eq_some_iff.1 hx).1
  refine List.ext_getElem? fun k => ?_
  rw [List.getElem?_set]
  have e : k = k / 4 * 4 + k % 4 := by omega
  have hk4 : k % 4 < 4 := Nat.mod_lt _ (by omega)
  rw [e, flat_atD _ _ _ hk4, flat_atD _ _ _ hk4, List.getElem?_set]
  by_cases h1 : j = k / 4
  · by_cases h2 : i = k % 4
    · have h3 : j * 4 + i = k / 4 * 4 + k % 4 := by omega
      have hlen : j * 4 + i < (xs.flatMap Dm.c).length := by rw [flat_lenD]; omega
      rw [if_pos h3, if_pos hlen, if_pos h1, if_pos hj]
      simp only [Option.bind_some]
      rw [hy, ← h2, List.getElem?_set_self (by simp [Dm.c]; omega)]
    · have h3 : ¬ j * 4 + i = k / 4 * 4 + k % 4 := by omega
      rw [if_neg h3, if_pos h1, if_pos hj, ← h1, hx]
      simp only [Option.bind_some]
      rw [hy, List.getElem?_set_ne h2]
  · have h3 : ¬ j * 4 + i = k / 4 * 4 + k % 4 := by omega
    rw [if_neg h3, if_neg h1]
theorem one_dm (x : Dm) : ∀ u ∈ x.c, u.oneCell' = true := by
  intro u hu
  simp [Dm.c] at hu
  rcases hu with rfl | rfl | rfl | rfl <;> rfl
theorem demi_info : (Try.prog.info? 46).map (fun i => (i.zero, i.size, i.bytes)) = some (some (.agg #[.int .i64 0, .int .i64 0, .int .i64 0, .int .i64 0]), 4, 32) := by kernel_rfl

set_option maxHeartbeats 8000000 in
theorem l92Demands_any (B g K : Nat) (w : World) (h : Rd w B g K) (hK : K ≤ 1099511620000) :
    Calls Try.prog 42 #[.pointer (some ⟨g, 0, none⟩)] w (DmDrawn 46 B g (K + 100) w) := by
  have hl := h.lt
  obtain ⟨i0, hi0, hz0, hz1, hz2⟩ := info_parts demi_info
  have hall0 := (Below.refl w.heap.size w).alloc (Nat.le_refl _) (.cells #[] 46)
  have HE := Lib.hid (own_empty w w.heap.size 46 4 (Nat.le_refl _))
  go_enter Try.func42, Try.ntmps42
  go_wp2_with fail
  go_wp2_with fail
  refine (pick_any _ _ _ _ _ (h.below hall0) (by omega) (by omega)).mono ?_
  rintro e w_p ⟨p, rfl, p_0, p_1, hrd_p, ho_p, hsz_p⟩
  have p_u := p_1 (by omega)
  have hlt_p := hrd_p.lt
  clear p_1
  go_wp2_with fail
  refine (pick_any _ _ _ _ _ hrd_p (by omega) (by omega)).mono ?_
  rintro e w_q ⟨q, rfl, q_0, q_1, hrd_q, ho_q, hsz_q⟩
  have q_u := q_1 (by omega)
  have hlt_q := hrd_q.lt
  clear q_1
  have HE2 := Lib.hid (own_only (own_only HE.out ho_p (by omega)) ho_q (by omega))
  have hO : Only g w w_q := ((Only.of_below hall0).trans ho_p).trans ho_q
  clear ho_p ho_q hsz_p hsz_q hrd_p h hall0 HE
  by_cases hq : q = 0
  · subst hq
    go_wp2_with fail
    have hnew := Bk.new w_q 3 #[.int .i64 0, .int .i64 6, .int .i64 7]
    have hall := (Below.refl w_q.heap.size w_q).alloc (Nat.le_refl _) (.cells #[.int .i64 0, .int .i64 6, .int .i64 7] 3)
    go_wp2_with fail
    refine (pick_any _ _ _ _ _ (hrd_q.below hall) (by omega) (by omega)).mono ?_
    rintro e w_u ⟨u, rfl, u_0, u_1, hrd_u, ho_u, hsz_u⟩
    have u_u := u_1 (by omega)
    have hlt_u := hrd_u.lt
    clear u_1
    obtain ⟨k0, rfl⟩ := Int.eq_ofNat_of_zero_le u_0
    obtain ⟨z, hz, z0, z1⟩ := lit_cell [0, 6, 7] 0 7 (hnew.only ho_u (by omega)) (by decide) (k := k0) (by simp; omega)
    have HE3 := Lib.hid (own_only (own_below HE2.out hall) ho_u (by omega))
    replace hO : Only g w w_u := (hO.trans (Only.of_below hall)).trans ho_u
    have hrd := hrd_u.more (K' := K + 10) (by omega)
    clear hnew hall ho_u hsz_u hrd_q hrd_u HE2
    go_wp2_with fail
    generalize w_u = wA at *
    go_loopw [3, 5] (fun v i wr => ∃ (k : Nat) (xs : List Dm), (k : Int) ≤ z ∧ i = .int .i64 k ∧ xs.length = k ∧ wr.ownsRow w.heap.size 46 4 v k (xs.flatMap Dm.c) ∧ Rd wr B g (K + 10 + 4 * k) ∧ Only g w wr) (fun _ i _ => (z).toNat - (intOf i).toNat)
    case atStart => exact ⟨0, [], by omega, rfl, rfl, by simpa using HE3.out, hrd, hO⟩
    case round =>
      clear HE3 hrd hO
      obtain ⟨k, xs, hk, rfl, hxs, hown, hrd, hO⟩ := hrel
      have hgw : g < w.heap.size := hl.2
      by_cases hlt : (k : Int) < z
      · have e0 : decide ((k : Int) < z) = true := by simpa using hlt
        obtain ⟨KK, hKK⟩ : ∃ KK, K + 10 + 4 * k = KK := ⟨_, rfl⟩
        rw [hKK] at hrd
        have hKb : KK + 60 ≤ 1099511627776 := by omega
        have HOW := Lib.hid hown
        clear hown
        go_wp2_with fail
        refine (pick_any _ _ _ _ _ hrd (by omega) (by omega)).mono ?_
        rintro e w_a ⟨a, rfl, a_0, a_1, hrd_a, ho_a, hsz_a⟩
        have a_u := a_1 (by omega)
        have hlt_a := hrd_a.lt
        clear a_1
        go_wp2_with fail
        refine (pick_any _ _ _ _ _ hrd_a (by omega) (by omega)).mono ?_
        rintro e w_b ⟨b, rfl, b_0, b_1, hrd_b, ho_b, hsz_b⟩
        have b_u := b_1 (by omega)
        have hlt_b := hrd_b.lt
        clear b_1
        go_wp2_with fail
        refine (pick_any _ _ _ _ _ hrd_b (by omega) (by omega)).mono ?_
        rintro e w_x0 ⟨x0, rfl, x0_0, x0_1, hrd_x0, ho_x0, hsz_x0⟩
        have x0_u := x0_1 (by omega)
        have hlt_x0 := hrd_x0.lt
        clear x0_1
        go_wp2_with fail
        refine (pick_any _ _ _ _ _ hrd_x0 (by omega) (by omega)).mono ?_
        rintro e w_d ⟨d, rfl, d_0, d_1, hrd_d, ho_d, hsz_d⟩
        have d_u := d_1 (by omega)
        have hlt_d := hrd_d.lt
        clear d_1
        have HO1 := Lib.hid (own_only (own_only (own_only (own_only HOW.out ho_a hgw) ho_b hgw) ho_x0 hgw) ho_d hgw)
        have hO1 : Only g w w_d := (((hO.trans ho_a).trans ho_b).trans ho_x0).trans ho_d
        have hszw := hO1.size
        have HNB := Lib.hid (show Sl (w_d.alloc (.cells #[.int .i64 x0, .int .i64 (10 + a), .int .i64 (10 + a + 1 + b), .int .i64 (10 + a + 1 + b + 1 + d)] 46)) (w_d.heap.size + 1) 4 (some ⟨w_d.heap.size, 0, none⟩) 1 (Dm.c ⟨x0, 10 + a, 10 + a + 1 + b, 10 + a + 1 + b + 1 + d⟩) from ⟨rfl, fun _ => ⟨w_d.heap.size, 0, rfl, by omega, fun j u hu => by
          rw [Nat.zero_add, (Bk.new w_d 46 #[.int .i64 x0, .int .i64 (10 + a), .int .i64 (10 + a + 1 + b), .int .i64 (10 + a + 1 + b + 1 + d)]).cell j]; simpa [Dm.c] using hu⟩⟩)
        clear ho_a ho_b ho_x0 ho_d hsz_a hsz_b hsz_x0 hsz_d hrd_a hrd_b hrd_x0 HOW hO
        go_wp2_with (at_builtin; refine wpList_app _ rfl _ _ 26 rfl w.heap.size 46 i0 (.agg #[.int .i64 0, .int .i64 0, .int .i64 0, .int .i64 0]) 4 32 Try.underlying26 hi0 hz0 hz1 hz2 rfl (by omega) _ k _ rfl (HO1.out.alloc _) (w_d.heap.size + 1) (some ⟨w_d.heap.size, 0, none⟩) 1 1 _ rfl HNB.out (one_dm _) (by unfold maxLen; omega) (by omega) (by simp; omega) ?_; intro v2 w3 hown2 hgrow hat)
        have hr3 : Rd w3 B g (KK + 4) := by
          have h1 := hrd_d.below ((Below.refl w_d.heap.size w_d).alloc (Nat.le_refl _) (.cells #[.int .i64 x0, .int .i64 (10 + a), .int .i64 (10 + a + 1 + b), .int .i64 (10 + a + 1 + b + 1 + d)] 46))
          exact Rd.grown_own h1 hgrow (HO1.out.alloc _) hgw
        have hO3 : Only g w w3 := Only.grown_own (hO1.alloc _) hgrow (HO1.out.alloc _) (Nat.le_refl _)
        have HO2 := Lib.hid (show w3.ownsRow w.heap.size 46 4 v2 (k + 1) ((xs ++ [(⟨x0, 10 + a, 10 + a + 1 + b, 10 + a + 1 + b + 1 + d⟩ : Dm)]).flatMap Dm.c) by rw [List.flatMap_append]; simpa using hown2)
        clear hown2 hgrow hat HO1 hO1 hrd_d
        go_wp2
        go_roundw
        case rel => exact ⟨k + 1, _, by omega, by go_num, by simp [hxs], HO2.out, hr3.more (by omega), hO3⟩
        case measure => simp [intOf]; omega
      · have hkn : (k : Int) = z := by omega
        have e0 : decide ((k : Int) < z) = false := by simpa using hlt
        have HOW := Lib.hid hown
        clear hown
        by_cases hk0 : k = 0
        · have e1 : decide (0 < z) = false := by simp; omega
          have HX := Lib.hid (show xs.length ≤ 7 ∧ wr.ownsRow w.heap.size 46 4 u3 xs.length (xs.flatMap Dm.c) from ⟨by omega, by rw [hxs]; exact HOW.out⟩)
          go_wp2
          go_ret
          exact ⟨_, xs, rfl, HX.out.1, HX.out.2, hrd.more (by omega), hO⟩
        have e1 : decide (0 < z) = true := by simp; omega
        obtain ⟨gr, cap, rfl, hgr, -, hcap1, hcap2⟩ := own_head HOW.out (by omega)
        go_wp2_with fail
        refine (pick_any _ _ _ _ _ hrd (by omega) (by omega)).mono ?_
        rintro e w_f ⟨f, rfl, f_0, f_1, hrd_f, ho_f, hsz_f⟩
        have f_u := f_1 (by omega)
        have hlt_f := hrd_f.lt
        clear f_1
        have hO2 := hO.trans ho_f
        have HO2 := Lib.hid (own_only HOW.out ho_f hgw)
        by_cases hf : f = 0
        · subst hf
          go_wp2_with fail
          refine (pick_any _ _ _ _ _ hrd_f (by omega) (by omega)).mono ?_
          rintro e w_j ⟨j, rfl, j_0, j_1, hrd_j, ho_j, hsz_j⟩
          have j_u := j_1 (by omega)
          have hlt_j := hrd_j.lt
          clear j_1
          obtain ⟨j, rfl⟩ := Int.eq_ofNat_of_zero_le j_0
          have hjk : j < k := by omega
          obtain ⟨x, hx⟩ : ∃ x, xs[j]? = some x := ⟨_, List.getElem?_eq_getElem (by omega)⟩
          have hO3 := hO2.trans ho_j
          have hO3' := own_only HO2.out ho_j hgw
          have HO4 := Lib.hid (own_set (j := j * 4 + 1) hO3' (.int .i64 0))
          have hfr := own_free hO3' (j * 4 + 1)
          have hcl := own_cell hO3' (i := j * 4 + 1) (u := .int .i64 x.lo) (by rw [flat_atD _ _ _ (by omega), hx]; rfl)
          have HFS := Lib.hid (flat_setD xs j 1 (by omega) 0 x ⟨x.we, 0, x.mi, x.hi⟩ hx rfl)
          have HX := Lib.hid hx
          clear hx hO3' HO2 HOW ho_j ho_f hsz_j hsz_f
          go_wp2
          go_ret
          refine ⟨_, xs.set j ⟨x.we, 0, x.mi, x.hi⟩, rfl, by simp; omega, ?_, (hrd_j.setCell (p := ⟨gr, j * 4 + 1, none⟩) (by show g < gr; omega) _).more (by omega), hO3.setCell (p := ⟨gr, j * 4 + 1, none⟩) (.inr hgr) _⟩
          rw [List.length_set, hxs, ← HFS.out]
          exact HO4.out
        · have e2 : (f == 0) = false := by simpa using hf
          go_wp2
          go_ret
          exact ⟨_, xs, rfl, by omega, by rw [hxs]; exact HO2.out, hrd_f.more (by omega), hO2⟩
  · have e1 : (q == 0) = false := by simpa using hq
    have HE3 := HE2
    have hrd := hrd_q.more (K' := K + 10) (by omega)
    clear hrd_q HE2
    go_wp2_with fail
    generalize w_q = wA at *
    go_loopw [3, 5] (fun v i wr => ∃ (k : Nat) (xs : List Dm), (k : Int) ≤ (1 + p) ∧ i = .int .i64 k ∧ xs.length = k ∧ wr.ownsRow w.heap.size 46 4 v k (xs.flatMap Dm.c) ∧ Rd wr B g (K + 10 + 4 * k) ∧ Only g w wr) (fun _ i _ => ((1 + p)).toNat - (intOf i).toNat)
    case atStart => exact ⟨0, [], by omega, rfl, rfl, by simpa using HE3.out, hrd, hO⟩
    case round =>
      clear HE3 hrd hO
      obtain ⟨k, xs, hk, rfl, hxs, hown, hrd, hO⟩ := hrel
      have hgw : g < w.heap.size := hl.2
      by_cases hlt : (k : Int) < (1 + p)
      · have e0 : decide ((k : Int) < (1 + p)) = true := by simpa using hlt
        obtain ⟨KK, hKK⟩ : ∃ KK, K + 10 + 4 * k = KK := ⟨_, rfl⟩
        rw [hKK] at hrd
        have hKb : KK + 60 ≤ 1099511627776 := by omega
        have HOW := Lib.hid hown
        clear hown
        go_wp2_with fail
        refine (pick_any _ _ _ _ _ hrd (by omega) (by omega)).mono ?_
        rintro e w_a ⟨a, rfl, a_0, a_1, hrd_a, ho_a, hsz_a⟩
        have a_u := a_1 (by omega)
        have hlt_a := hrd_a.lt
        clear a_1
        go_wp2_with fail
        refine (pick_any _ _ _ _ _ hrd_a (by omega) (by omega)).mono ?_
        rintro e w_b ⟨b, rfl, b_0, b_1, hrd_b, ho_b, hsz_b⟩
        have b_u := b_1 (by omega)
        have hlt_b := hrd_b.lt
        clear b_1
        go_wp2_with fail
        refine (pick_any _ _ _ _ _ hrd_b (by omega) (by omega)).mono ?_
        rintro e w_x0 ⟨x0, rfl, x0_0, x0_1, hrd_x0, ho_x0, hsz_x0⟩
        have x0_u := x0_1 (by omega)
        have hlt_x0 := hrd_x0.lt
        clear x0_1
        go_wp2_with fail
        refine (pick_any _ _ _ _ _ hrd_x0 (by omega) (by omega)).mono ?_
        rintro e w_d ⟨d, rfl, d_0, d_1, hrd_d, ho_d, hsz_d⟩
        have d_u := d_1 (by omega)
        have hlt_d := hrd_d.lt
        clear d_1
        have HO1 := Lib.hid (own_only (own_only (own_only (own_only HOW.out ho_a hgw) ho_b hgw) ho_x0 hgw) ho_d hgw)
        have hO1 : Only g w w_d := (((hO.trans ho_a).trans ho_b).trans ho_x0).trans ho_d
        have hszw := hO1.size
        have HNB := Lib.hid (show Sl (w_d.alloc (.cells #[.int .i64 x0, .int .i64 (10 + a), .int .i64 (10 + a + 1 + b), .int .i64 (10 + a + 1 + b + 1 + d)] 46)) (w_d.heap.size + 1) 4 (some ⟨w_d.heap.size, 0, none⟩) 1 (Dm.c ⟨x0, 10 + a, 10 + a + 1 + b, 10 + a + 1 + b + 1 + d⟩) from ⟨rfl, fun _ => ⟨w_d.heap.size, 0, rfl, by omega, fun j u hu => by
          rw [Nat.zero_add, (Bk.new w_d 46 #[.int .i64 x0, .int .i64 (10 + a), .int .i64 (10 + a + 1 + b), .int .i64 (10 + a + 1 + b + 1 + d)]).cell j]; simpa [Dm.c] using hu⟩⟩)
        clear ho_a ho_b ho_x0 ho_d hsz_a hsz_b hsz_x0 hsz_d hrd_a hrd_b hrd_x0 HOW hO
        go_wp2_with (at_builtin; refine wpList_app _ rfl _ _ 26 rfl w.heap.size 46 i0 (.agg #[.int .i64 0, .int .i64 0, .int .i64 0, .int .i64 0]) 4 32 Try.underlying26 hi0 hz0 hz1 hz2 rfl (by omega) _ k _ rfl (HO1.out.alloc _) (w_d.heap.size + 1) (some ⟨w_d.heap.size, 0, none⟩) 1 1 _ rfl HNB.out (one_dm _) (by unfold maxLen; omega) (by omega) (by simp; omega) ?_; intro v2 w3 hown2 hgrow hat)
        have hr3 : Rd w3 B g (KK + 4) := by
          have h1 := hrd_d.below ((Below.refl w_d.heap.size w_d).alloc (Nat.le_refl _) (.cells #[.int .i64 x0, .int .i64 (10 + a), .int .i64 (10 + a + 1 + b), .int .i64 (10 + a + 1 + b + 1 + d)] 46))
          exact Rd.grown_own h1 hgrow (HO1.out.alloc _) hgw
        have hO3 : Only g w w3 := Only.grown_own (hO1.alloc _) hgrow (HO1.out.alloc _) (Nat.le_refl _)
        have HO2 := Lib.hid (show w3.ownsRow w.heap.size 46 4 v2 (k + 1) ((xs ++ [(⟨x0, 10 + a, 10 + a + 1 + b, 10 + a + 1 + b + 1 + d⟩ : Dm)]).flatMap Dm.c) by rw [List.flatMap_append]; simpa using hown2)
        clear hown2 hgrow hat HO1 hO1 hrd_d
        go_wp2
        go_roundw
        case rel => exact ⟨k + 1, _, by omega, by go_num, by simp [hxs], HO2.out, hr3.more (by omega), hO3⟩
        case measure => simp [intOf]; omega
      · have hkn : (k : Int) = (1 + p) := by omega
        have e0 : decide ((k : Int) < (1 + p)) = false := by simpa using hlt
        have HOW := Lib.hid hown
        clear hown
        by_cases hk0 : k = 0
        · have e1 : decide (0 < (1 + p)) = false := by simp; omega
          have HX := Lib.hid (show xs.length ≤ 7 ∧ wr.ownsRow w.heap.size 46 4 u3 xs.length (xs.flatMap Dm.c) from ⟨by omega, by rw [hxs]; exact HOW.out⟩)
          go_wp2
          go_ret
          exact ⟨_, xs, rfl, HX.out.1, HX.out.2, hrd.more (by omega), hO⟩
        have e1 : decide (0 < (1 + p)) = true := by simp; omega
        obtain ⟨gr, cap, rfl, hgr, -, hcap1, hcap2⟩ := own_head HOW.out (by omega)
        go_wp2_with fail
        refine (pick_any _ _ _ _ _ hrd (by omega) (by omega)).mono ?_
        rintro e w_f ⟨f, rfl, f_0, f_1, hrd_f, ho_f, hsz_f⟩
        have f_u := f_1 (by omega)
        have hlt_f := hrd_f.lt
        clear f_1
        have hO2 := hO.trans ho_f
        have HO2 := Lib.hid (own_only HOW.out ho_f hgw)
        by_cases hf : f = 0
        · subst hf
          go_wp2_with fail
          refine (pick_any _ _ _ _ _ hrd_f (by omega) (by omega)).mono ?_
          rintro e w_j ⟨j, rfl, j_0, j_1, hrd_j, ho_j, hsz_j⟩
          have j_u := j_1 (by omega)
          have hlt_j := hrd_j.lt
          clear j_1
          obtain ⟨j, rfl⟩ := Int.eq_ofNat_of_zero_le j_0
          have hjk : j < k := by omega
          obtain ⟨x, hx⟩ : ∃ x, xs[j]? = some x := ⟨_, List.getElem?_eq_getElem (by omega)⟩
          have hO3 := hO2.trans ho_j
          have hO3' := own_only HO2.out ho_j hgw
          have HO4 := Lib.hid (own_set (j := j * 4 + 1) hO3' (.int .i64 0))
          have hfr := own_free hO3' (j * 4 + 1)
          have hcl := own_cell hO3' (i := j * 4 + 1) (u := .int .i64 x.lo) (by rw [flat_atD _ _ _ (by omega), hx]; rfl)
          have HFS := Lib.hid (flat_setD xs j 1 (by omega) 0 x ⟨x.we, 0, x.mi, x.hi⟩ hx rfl)
          have HX := Lib.hid hx
          clear hx hO3' HO2 HOW ho_j ho_f hsz_j hsz_f
          go_wp2
          go_ret
          refine ⟨_, xs.set j ⟨x.we, 0, x.mi, x.hi⟩, rfl, by simp; omega, ?_, (hrd_j.setCell (p := ⟨gr, j * 4 + 1, none⟩) (by show g < gr; omega) _).more (by omega), hO3.setCell (p := ⟨gr, j * 4 + 1, none⟩) (.inr hgr) _⟩
          rw [List.length_set, hxs, ← HFS.out]
          exact HO4.out
        · have e2 : (f == 0) = false := by simpa using hf
          go_wp2
          go_ret
          exact ⟨_, xs, rfl, by omega, by rw [hxs]; exact HO2.out, hrd_f.more (by omega), hO2⟩

/-- Demands and a budget were drawn. -/
def ShGot (T : TypeId) (w : World) (e : Ending) (w' : World) : Prop := ∃ (v : Value) (xs : List Dm) (z : Int), e = .returned (.tuple #[v, .int .i64 z]) ∧ xs.length ≤ 7 ∧ w'.ownsRow w.heap.size T 4 v xs.length (xs.flatMap Dm.c) ∧ -1 ≤ z ∧ z ≤ 1000000 ∧ Below w.heap.size w w'
/-- What the slots hold of the region that picks a budget. -/
def IB (g : Nat) (v0 : Value) : Nat → Value → World → Prop
  | 0, v, _ => v = v0
  | 1, v, w => VRow 3 g [-1, 0, 999999, 1000000] v w
  | 2, v, _ => v = .pointer (some ⟨g, 0, none⟩)
  | 3, v, _ => VInt 0 3 v
  | 4, v, w => VCell 3 g [-1, 0, 999999, 1000000] v w
  | 5, v, _ => VInt (-1) 1000000 v
  | 6, v, _ => v = v0
  | 7, v, _ => VInt (-1) 1000000 v
  | _, _, _ => True
theorem IB.only {g : Nat} {v0 : Value} (j : Nat) (v : Value) (w w' : World) (ho : Only g w w') (h : IB g v0 j v w) : IB g v0 j v w' := by
  unfold IB at *
  split at h <;> first | exact VRow.only h ho | exact VCell.only h ho | exact h

set_option maxHeartbeats 4000000 in
theorem draw_shares (A : Option Addr) (n c : Nat) (w : World) (h : Bytes w w.heap.size A n) (hnc : n ≤ c) (hc : c ≤ maxLen) :
    Calls Try.prog 24 #[.slice A n c] w (ShGot 46 w) := by
  go_enter Try.func24, Try.ntmps24
  go_wp2_with fail
  refine (open_any A n c _ h hnc hc).mono ?_
  rintro e w1 ⟨rfl, hrd, hb1⟩
  have hl1 := hrd.lt
  generalize hg : w.heap.size = g at *
  go_wp2_with fail
  refine (l92Demands_any _ _ _ _ hrd (by omega)).mono ?_
  rintro e w2 ⟨v, xs, rfl, hx7, hown, hrd2, ho2⟩
  have HOW := Lib.hid (own_more hown (base' := g) (by omega))
  have HOW1 := Lib.hid hown
  clear hown
  go_wp2_with fail
  refine (pick_any _ _ _ _ _ hrd2 (by omega) (by omega)).mono ?_
  rintro e w_q ⟨q, rfl, q_0, q_1, hrd_q, ho_q, hsz_q⟩
  have q_u := q_1 (by omega)
  have hlt_q := hrd_q.lt
  clear q_1
  have hO := ho2.trans ho_q
  have HOW2 := Lib.hid (own_only HOW1.out ho_q (by omega))
  clear ho2 ho_q hsz_q hrd2 hrd HOW HOW1
  by_cases hq : q = 0
  · subst hq
    have hg2 : g < w_q.heap.size := hrd_q.lt.2
    go_wp2_with fail
    refine wp_region_inv (fun n w' => Rd w' g g (0 + 100 + 1 + n) ∧ Only g w_q w') (Only g) (IB g v) (by kernel_rfl) (by kernel_rfl) (by kernel_rfl) ⟨Rd.drew hrd_q, Only.drew (Only.refl _ _)⟩ IB.only ⟨?_, ?_, ?_, ?_, ?_, ?_, ?_, ?_, trivial⟩ ?_
    · intro n x wv hn ⟨hcr, hco⟩ hd
      have HO := Lib.hid hco
      clear hco
      replace hn : n < 8 := hn
      have hlv := hcr.lt
      clear hd
      refine ⟨?_⟩
      simp only [fill, Act.put, List.setIfInBounds_toArray, List.set_cons_zero, List.set_cons_succ]
      go_simp
      exact ⟨Only.refl _ _, ⟨hcr.more (by omega), HO.out⟩, rfl⟩
    · intro n x wv hn ⟨hcr, hco⟩ hd
      have HO := Lib.hid hco
      clear hco
      replace hn : n < 8 := hn
      have hlv := hcr.lt
      clear hd
      refine ⟨?_⟩
      simp only [fill, Act.put, List.setIfInBounds_toArray, List.set_cons_zero, List.set_cons_succ]
      go_simp
      exact ⟨(Only.refl _ _).alloc _, ⟨(hcr.below ((Below.refl _ _).alloc (Nat.le_refl _) _)).more (by omega), HO.out.alloc _⟩, _, rfl, by omega, Bk.new _ _ _⟩
    · intro n x wv hn ⟨hcr, hco⟩ hd
      have HO := Lib.hid hco
      clear hco
      replace hn : n < 8 := hn
      have hlv := hcr.lt
      clear hd
      refine ⟨?_⟩
      simp only [fill, Act.put, List.setIfInBounds_toArray, List.set_cons_zero, List.set_cons_succ]
      go_simp
      exact ⟨Only.refl _ _, ⟨hcr.more (by omega), HO.out⟩, rfl⟩
    · intro n x wv hn ⟨hcr, hco⟩ hd
      have HO := Lib.hid hco
      clear hco
      replace hn : n < 8 := hn
      have hlv := hcr.lt
      simp [IB, Region.binds] at hd
      obtain hx := hd
      refine ⟨?_⟩
      simp only [fill, Act.put, List.setIfInBounds_toArray, List.set_cons_zero, List.set_cons_succ]
      go_simp
      refine (pick_any g g _ _ _ hcr (by omega) (by omega)).mono ?_
      rintro e w2 ⟨r, rfl, r0, r1, hrd2, ho2, _⟩
      exact ⟨ho2, ⟨hrd2.more (by omega), HO.out.trans ho2⟩, r, rfl, r0, by have := r1 (by omega); omega⟩
    · intro n x wv hn ⟨hcr, hco⟩ hd
      have HO := Lib.hid hco
      clear hco
      replace hn : n < 8 := hn
      have hlv := hcr.lt
      simp [IB, Region.binds] at hd
      obtain ⟨⟨b, hx0, hbg, hbk⟩, r, hx2, r0, r1⟩ := hd
      obtain ⟨k, rfl⟩ := Int.eq_ofNat_of_zero_le r0
      have hbk := Lib.hid hbk
      have r3 : (k : Int) < 4 := by omega
      refine ⟨?_⟩
      simp only [fill, Act.put, List.setIfInBounds_toArray, List.set_cons_zero, List.set_cons_succ]
      go_simp
      exact ⟨Only.refl _ _, ⟨hcr.more (by omega), HO.out⟩, b, k, rfl, hbg, (by simp; omega), hbk.out⟩
    · intro n x wv hn ⟨hcr, hco⟩ hd
      have HO := Lib.hid hco
      clear hco
      replace hn : n < 8 := hn
      have hlv := hcr.lt
      simp [IB, Region.binds] at hd
      obtain ⟨b, k, hx3, hbg, hk, hbk⟩ := hd
      obtain ⟨z, hz, hz0, hz1⟩ := lit_cell [-1, 0, 999999, 1000000] (-1) 1000000 hbk (by decide) hk
      refine ⟨?_⟩
      simp only [fill, Act.put, List.setIfInBounds_toArray, List.set_cons_zero, List.set_cons_succ]
      go_simp
      exact ⟨Only.refl _ _, ⟨hcr.more (by omega), HO.out⟩, z, rfl, hz0, hz1⟩
    · intro n x wv hn ⟨hcr, hco⟩ hd
      have HO := Lib.hid hco
      clear hco
      replace hn : n < 8 := hn
      have hlv := hcr.lt
      simp [IB, Region.binds] at hd
      obtain hx := hd
      refine ⟨?_⟩
      simp only [fill, Act.put, List.setIfInBounds_toArray, List.set_cons_zero, List.set_cons_succ]
      go_simp
      exact ⟨Only.refl _ _, ⟨hcr.more (by omega), HO.out⟩, rfl⟩
    · intro n x wv hn ⟨hcr, hco⟩ hd
      have HO := Lib.hid hco
      clear hco
      replace hn : n < 8 := hn
      have hlv := hcr.lt
      simp [IB, Region.binds] at hd
      obtain ⟨⟨z, hx, hz0, hz1⟩, _⟩ := hd
      refine ⟨?_⟩
      simp only [fill, Act.put, List.setIfInBounds_toArray, List.set_cons_zero, List.set_cons_succ]
      go_simp
      exact ⟨Only.refl _ _, ⟨hcr.more (by omega), HO.out⟩, z, rfl, hz0, hz1⟩
    · intro x w3 ⟨hcr, hco⟩ hI
      have h6 := hI 6 (by decide)
      have h7 := hI 7 (by decide)
      replace h6 : x 6 = v := h6
      obtain ⟨z, h7, hz0, hz1⟩ := h7
      have HO := Lib.hid hco
      clear hco hI
      refine ⟨?_⟩
      simp only [fill, Act.put, List.setIfInBounds_toArray, List.set_cons_zero, List.set_cons_succ, h6, h7]
      go_wp2
      go_ret2
      subst hg
      exact ⟨_, xs, z, rfl, hx7, own_more (own_only HOW2.out HO.out (by omega)) (by omega), hz0, hz1, hb1.trans ((hO.trans HO.out).below (Nat.le_refl _) (by omega))⟩
  · have e0 : (q == 0) = false := by simpa using hq
    go_wp2_with fail
    refine (pick_any _ _ _ _ _ hrd_q (by omega) (by omega)).mono ?_
    rintro e w_r ⟨r, rfl, r_0, r_1, hrd_r, ho_r, hsz_r⟩
    have r_u := r_1 (by omega)
    have hlt_r := hrd_r.lt
    clear r_1
    have hO3 := hO.trans ho_r
    have HOW3 := Lib.hid (own_only HOW2.out ho_r (by omega))
    go_wp2
    go_ret2
    subst hg
    exact ⟨_, xs, _, rfl, hx7, own_more HOW3.out (by omega), by omega, by omega, hb1.trans (hO3.below (Nat.le_refl _) (by omega))⟩

/-- Demands, layers and a budget were drawn. -/
def LayDrawn (T U : TypeId) (g : Nat) (w : World) (e : Ending) (w' : World) : Prop := ∃ (v u : Value) (xs : List Dm) (ls : List Int) (z : Int), e = .returned (.tuple #[v, u, .int .i64 z]) ∧ xs.length ≤ 7 ∧ ls.length ≤ 7 ∧ w'.ownsRow w.heap.size T 4 v xs.length (xs.flatMap Dm.c) ∧ w'.ownsRow w.heap.size U 1 u ls.length (ls.map (Value.int .i64)) ∧ 0 ≤ z ∧ z ≤ 750 ∧ Only g w w'
theorem shL_le (xs : List Dm) (bud : Int) : (shL xs bud).length ≤ 7 := by
  unfold shL
  split
  · rename_i h
    rw [shR_len]
    have := h.1.1
    omega
  · simp

set_option maxHeartbeats 4000000 in
theorem l92Layers_any (B g K : Nat) (w : World) (h : Rd w B g K) (hK : K ≤ 1099511600000) :
    Calls Try.prog 37 #[.pointer (some ⟨g, 0, none⟩)] w (LayDrawn 46 3 g w) := by
  have hl := h.lt
  have hgw := hl.2
  go_enter Try.func37, Try.ntmps37
  go_wp2_with fail
  refine (l92Demands_any _ _ _ _ h (by omega)).mono ?_
  rintro e w1 ⟨v, xs, rfl, hx7, hown1, hrd1, ho1⟩
  go_wp2_with fail
  refine (pick_any _ _ _ _ _ hrd1 (by omega) (by omega)).mono ?_
  rintro e w_q ⟨q, rfl, q_0, q_1, hrd_q, ho_q, hsz_q⟩
  have q_u := q_1 (by omega)
  have hlt_q := hrd_q.lt
  clear q_1
  have hO := ho1.trans ho_q
  have hown2 := own_only hown1 ho_q hgw
  clear hown1 ho1 ho_q hsz_q hrd1
  obtain ⟨A, c, rfl, hnc, hcm, -⟩ := own_shape hown2
  have hD : Dms w_q w_q.heap.size A xs.length xs := Sl.of_own hown2
  have HOW2 := Lib.hid hown2
  have hn40 : xs.length ≤ 1099511627776 := by omega
  clear hown2
  go_wp2_with fail
  refine (sshares_any A xs.length c xs (q * 3) w_q hD hn40).mono ?_
  rintro e w2 ⟨u, rfl, hown3, hb2⟩
  have hrd2 := hrd_q.below hb2
  have hO2 := hO.trans (Only.of_below hb2)
  have HOW3 := Lib.hid (own_below HOW2.out hb2)
  have hlen7 := shL_le xs (q * 3)
  have hgq : g < w_q.heap.size := hrd_q.lt.2
  have hwq : w.heap.size ≤ w_q.heap.size := hO.size
  have hvq := HOW2.out.lt
  clear hrd_q hO HOW2 hD
  by_cases hs : shIn xs (q * 3)
  · have e0 : shK xs (q * 3) = true := decide_eq_true hs
    rw [e0]
    generalize hLL : shL xs (q * 3) = LL at *
    clear hLL
    by_cases hL0 : LL.length = 0
    · have e1 : ((LL.length : Int) == 0) = true := by simp [hL0]
      obtain ⟨A2, c2, rfl, -, -, -⟩ := own_shape hown3
      clear hown3
      have HE := Lib.hid (show (w2.alloc (.cells #[.int .i64 0] 3)).ownsRow w.heap.size 3 1 (.slice (some ⟨w2.heap.size, 0, none⟩) 1 1) 1 [.int .i64 0] from own_one hO2.size)
      have HO4 := Lib.hid (HOW3.out.alloc (.cells #[.int .i64 0] 3))
      go_wp2
      go_ret3
      exact ⟨_, _, xs, [0], _, rfl, hx7, by simp, HO4.out, HE.out, by omega, by omega, hO2.alloc _⟩
    · have e1 : ((LL.length : Int) == 0) = false := by simpa using hL0
      obtain ⟨gr, cap, rfl, hgr, hgr2, hcap1, hcap2⟩ := own_head hown3 (by omega)
      have HOW4 := Lib.hid hown3
      clear hown3
      go_wp2_with fail
      refine (pick_any _ _ _ _ _ hrd2 (by omega) (by omega)).mono ?_
      rintro e w_t ⟨t, rfl, t_0, t_1, hrd_t, ho_t, hsz_t⟩
      have t_u := t_1 (by omega)
      have hlt_t := hrd_t.lt
      clear t_1
      have hO3 := hO2.trans ho_t
      have HO5 := Lib.hid (own_only HOW4.out ho_t hgq)
      have HO6 := Lib.hid (own_only HOW3.out ho_t hgw)
      have hgr3 : gr < w_t.heap.size := Nat.lt_of_lt_of_le hgr2 ho_t.size
      clear ho_t hsz_t hrd2
      by_cases ht : t = 0
      · subst ht
        go_wp2_with fail
        refine (pick_any _ _ _ _ _ hrd_t (by omega) (by omega)).mono ?_
        rintro e w_j ⟨j, rfl, j_0, j_1, hrd_j, ho_j, hsz_j⟩
        have j_u := j_1 (by omega)
        have hlt_j := hrd_j.lt
        clear j_1
        obtain ⟨j, rfl⟩ := Int.eq_ofNat_of_zero_le j_0
        go_wp2_with fail
        refine (pick_any _ _ _ _ _ hrd_j (by omega) (by omega)).mono ?_
        rintro e w_m ⟨m, rfl, m_0, m_1, hrd_m, ho_m, hsz_m⟩
        have m_u := m_1 (by omega)
        have hlt_m := hrd_m.lt
        clear m_1
        have hjk : j < LL.length := by omega
        have hO4 := (hO3.trans ho_j).trans ho_m
        have hO5' := own_only (own_only HO5.out ho_j hgq) ho_m hgq
        have HO7 := Lib.hid (own_only (own_only HO6.out ho_j hgw) ho_m hgw)
        have hne : ∀ k, Value.ownBlock (.slice A xs.length c) = some k → k ≠ gr := fun k hk => by have := hvq k hk; omega
        have HO8 := Lib.hid (own_set (j := j) hO5' (.int .i64 (m - 1)))
        have hfr := own_free hO5' j
        have hcl := own_cell hO5' (i := j) (u := .int .i64 LL[j]) (by simp [hjk])
        clear hO5' ho_j ho_m hsz_j hsz_m hrd_t hrd_j
        go_wp2
        go_ret3
        refine ⟨_, _, xs, LL.set j (m - 1), _, rfl, hx7, by simpa using hlen7, own_but HO7.out (But.of_only (X := fun k => k = gr) (Only.set_ gr j _ _) rfl) (fun k hk e => hne k hk e), ?_, by omega, by omega, hO4.setCell (p := ⟨gr, j, none⟩) (.inr (by show w.heap.size ≤ gr; omega)) _⟩
        rw [List.length_set, List.map_set]
        exact own_more HO8.out (by omega)
      · have e2 : (t == 0) = false := by simpa using ht
        go_wp2
        go_ret3
        exact ⟨_, _, xs, LL, _, rfl, hx7, hlen7, HO6.out, own_more HO5.out (by omega), by omega, by omega, hO3⟩
  · have e0 : shK xs (q * 3) = false := decide_eq_false hs
    rw [e0]
    obtain ⟨A2, c2, rfl, -, -, -⟩ := own_shape hown3
    clear hown3
    have HE := Lib.hid (show (w2.alloc (.cells #[.int .i64 0] 3)).ownsRow w.heap.size 3 1 (.slice (some ⟨w2.heap.size, 0, none⟩) 1 1) 1 [.int .i64 0] from own_one hO2.size)
    have HO4 := Lib.hid (HOW3.out.alloc (.cells #[.int .i64 0] 3))
    go_wp2
    go_ret3
    exact ⟨_, _, xs, [0], _, rfl, hx7, by simp, HO4.out, HE.out, by omega, by omega, hO2.alloc _⟩


/-- Demands and layers were drawn; a budget too. -/
def LayGot (T U : TypeId) (w : World) (e : Ending) (w' : World) : Prop := ∃ (v u : Value) (xs : List Dm) (ls : List Int), e = .returned (.tuple #[v, u]) ∧ xs.length ≤ 7 ∧ ls.length ≤ 7 ∧ w'.ownsRow w.heap.size T 4 v xs.length (xs.flatMap Dm.c) ∧ w'.ownsRow w.heap.size U 1 u ls.length (ls.map (Value.int .i64)) ∧ Below w.heap.size w w'
def LayGot3 (T U : TypeId) (w : World) (e : Ending) (w' : World) : Prop := ∃ (v u : Value) (xs : List Dm) (ls : List Int) (z : Int), e = .returned (.tuple #[v, u, .int .i64 z]) ∧ xs.length ≤ 7 ∧ ls.length ≤ 7 ∧ w'.ownsRow w.heap.size T 4 v xs.length (xs.flatMap Dm.c) ∧ w'.ownsRow w.heap.size U 1 u ls.length (ls.map (Value.int .i64)) ∧ 0 ≤ z ∧ z ≤ 750 ∧ Below w.heap.size w w'
set_option maxHeartbeats 1000000 in
theorem draw_cost (A : Option Addr) (n c : Nat) (w : World) (h : Bytes w w.heap.size A n) (hnc : n ≤ c) (hc : c ≤ maxLen) :
    Calls Try.prog 20 #[.slice A n c] w (LayGot 46 3 w) := by
  go_enter Try.func20, Try.ntmps20
  go_wp2_with fail
  refine (open_any A n c _ h hnc hc).mono ?_
  rintro e w1 ⟨rfl, hrd, hb1⟩
  have hl1 := hrd.lt
  go_wp2_with fail
  refine (l92Layers_any _ _ _ _ hrd (by omega)).mono ?_
  rintro e w2 ⟨v, u, xs, ls, z, rfl, h7, hl7, ho1, ho2, hz0, hz1, hO⟩
  have H1 := Lib.hid (own_more ho1 (base' := w.heap.size) (by omega))
  have H2 := Lib.hid (own_more ho2 (base' := w.heap.size) (by omega))
  clear ho1 ho2
  go_wp2
  go_ret2
  exact ⟨_, _, xs, ls, rfl, h7, hl7, H1.out, H2.out, hb1.trans (hO.below (Nat.le_refl _) (by omega))⟩
set_option maxHeartbeats 1000000 in
theorem draw_full (A : Option Addr) (n c : Nat) (w : World) (h : Bytes w w.heap.size A n) (hnc : n ≤ c) (hc : c ≤ maxLen) :
    Calls Try.prog 21 #[.slice A n c] w (LayGot3 46 3 w) := by
  go_enter Try.func21, Try.ntmps21
  go_wp2_with fail
  refine (open_any A n c _ h hnc hc).mono ?_
  rintro e w1 ⟨rfl, hrd, hb1⟩
  have hl1 := hrd.lt
  go_wp2_with fail
  refine (l92Layers_any _ _ _ _ hrd (by omega)).mono ?_
  rintro e w2 ⟨v, u, xs, ls, z, rfl, h7, hl7, ho1, ho2, hz0, hz1, hO⟩
  have H1 := Lib.hid (own_more ho1 (base' := w.heap.size) (by omega))
  have H2 := Lib.hid (own_more ho2 (base' := w.heap.size) (by omega))
  clear ho1 ho2
  go_wp2
  go_ret3
  exact ⟨_, _, xs, ls, z, rfl, h7, hl7, H1.out, H2.out, hz0, hz1, hb1.trans (hO.below (Nat.le_refl _) (by omega))⟩
end Go.Proofs.Ythkoafcbcnobhaa
