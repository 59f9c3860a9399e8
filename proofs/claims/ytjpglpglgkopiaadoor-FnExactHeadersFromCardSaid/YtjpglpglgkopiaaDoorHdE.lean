/-
  Packets are drawn.
  Conditions: the code's memory.
-/
import Derived.Deep.DeepCutAuto
import Derived.Test.YtjpglpglgkopiaaDoorHdD
namespace Go.Proofs.YtjpglpglgkopiaaDoor
open Go.RowKit
set_option linter.unusedVariables false
set_option linter.unusedSimpArgs false

theorem flat_setP (xs : List Pk) (j i : Nat) (hi : i < 6) (v : Value) (x y : Pk) (hx : xs[j]? = some x) (hy : y.c = x.c.set i v) : (xs.flatMap Pk.c).set (j * 6 + i) v = (xs.set j y).flatMap Pk.c := by
  have hj := (List.getElem?_eq_some_iff.1 hx).1
  refine List.ext_getElem? fun k => ?_
  rw [List.getElem?_set]
  have e : k = k / 6 * 6 + k % 6 := by omega
  have hk4 : k % 6 < 6 := Nat.mod_lt _ (by omega)
  rw [e, flat_atP _ _ _ hk4, flat_atP _ _ _ hk4, List.getElem?_set]
  by_cases h1 : j = k / 6
  · by_cases h2 : i = k % 6
    · have h3 : j * 6 + i = k / 6 * 6 + k % 6 := by omega
      rw [if_pos h3, if_pos (by rw [flat_lenP]; omega), if_pos h1, if_pos (by omega)]
      simp only [Option.bind_some]
      rw [hy, ← h2, List.getElem?_set_self (by simp [Pk.c]; omega)]
    · have h3 : ¬ j * 6 + i = k / 6 * 6 + k % 6 := by omega
      rw [if_neg h3, if_pos h1, if_pos (by omega), ← h1, hx]
      simp only [Option.bind_some]
      rw [hy, List.getElem?_set_ne h2]
  · have h3 : ¬ j * 6 + i = k / 6 * 6 + k % 6 := by omega
    rw [if_neg h3, if_neg h1]
/-- A new row of integers from block N on; the address of one of its cells. -/
def LRow (N : Nat) (T : TypeId) (zs : List Int) (v : Value) (w : World) : Prop := ∃ b, v = .slice (some ⟨b, 0, none⟩) zs.length zs.length ∧ N ≤ b ∧ Bk w b T (zs.map (Value.int .i64)).toArray
def LCell (N : Nat) (T : TypeId) (zs : List Int) (v : Value) (w : World) : Prop := ∃ b k, v = .pointer (some ⟨b, k, none⟩) ∧ N ≤ b ∧ k < zs.length ∧ Bk w b T (zs.map (Value.int .i64)).toArray
theorem LRow.but {N : Nat} {T : TypeId} {zs : List Int} {v : Value} {w w' : World} {X : Nat → Prop} (h : LRow N T zs v w) (hb : But X w w') (hX : ∀ k, X k → k < N) : LRow N T zs v w' := by
  obtain ⟨b, h1, h2, h3⟩ := h
  exact ⟨b, h1, h2, h3.but hb fun hx => by have := hX b hx; omega⟩
theorem LCell.but {N : Nat} {T : TypeId} {zs : List Int} {v : Value} {w w' : World} {X : Nat → Prop} (h : LCell N T zs v w) (hb : But X w w') (hX : ∀ k, X k → k < N) : LCell N T zs v w' := by
  obtain ⟨b, k, h1, h2, h3, h4⟩ := h
  exact ⟨b, k, h1, h2, h3, h4.but hb fun hx => by have := hX b hx; omega⟩
/-- Since world w0 only the reader's block and the row's have turned, and the row holds packets. -/
structure CX (T : TypeId) (N0 g gr m cap : Nat) (w0 w' : World) : Prop where
  but : But (fun k => k = g ∨ k = gr) w0 w'
  row : ∃ xs : List Pk, xs.length = m ∧ w'.ownsRow N0 T 6 (.slice (some ⟨gr, 0, none⟩) m cap) m (xs.flatMap Pk.c)
theorem CX.size {T : TypeId} {N0 g gr m cap : Nat} {w0 w' : World} (h : CX T N0 g gr m cap w0 w') : w0.heap.size ≤ w'.heap.size := h.but.size
theorem CX.only {T : TypeId} {N0 g gr m cap : Nat} {w0 w' w2 : World} (h : CX T N0 g gr m cap w0 w') (ho : Only g w' w2) (hg : g < N0) : CX T N0 g gr m cap w0 w2 := by
  obtain ⟨hb, xs, h1, h2⟩ := h
  exact ⟨hb.trans (But.of_only ho (.inl rfl)), xs, h1, own_only h2 ho hg⟩
theorem CX.alloc {T : TypeId} {N0 g gr m cap : Nat} {w0 w' : World} (h : CX T N0 g gr m cap w0 w') (o : Obj) : CX T N0 g gr m cap w0 (w'.alloc o) := by
  obtain ⟨hb, xs, h1, h2⟩ := h
  exact ⟨hb.alloc o, xs, h1, h2.alloc _⟩
theorem CX.cell {T : TypeId} {N0 g gr m cap : Nat} {w0 w' : World} (h : CX T N0 g gr m cap w0 w') {j i : Nat} (hj : j < m) (hi : i < 4) : w'.frozen? ⟨gr, j * 6 + i, none⟩ = false ∧ ∃ z : Int, w'.cell? ⟨gr, j * 6 + i, none⟩ = some (.int .i64 z) := by
  obtain ⟨hb, xs, h1, h2⟩ := h
  obtain ⟨x, hx⟩ : ∃ x, xs[j]? = some x := ⟨_, List.getElem?_eq_getElem (by omega)⟩
  refine ⟨own_free h2 _, ?_⟩
  rcases (show i = 0 ∨ i = 1 ∨ i = 2 ∨ i = 3 by omega) with rfl | rfl | rfl | rfl
  · exact ⟨x.wi, own_cell h2 (by rw [flat_atP _ _ _ (by omega), hx]; rfl)⟩
  · exact ⟨x.ti, own_cell h2 (by rw [flat_atP _ _ _ (by omega), hx]; rfl)⟩
  · exact ⟨x.la, own_cell h2 (by rw [flat_atP _ _ _ (by omega), hx]; rfl)⟩
  · exact ⟨x.si, own_cell h2 (by rw [flat_atP _ _ _ (by omega), hx]; rfl)⟩
theorem CX.store {T : TypeId} {N0 g gr m cap : Nat} {w0 w' : World} (h : CX T N0 g gr m cap w0 w') {j i : Nat} (hj : j < m) (hi : i < 4) (z : Int) : CX T N0 g gr m cap w0 (w'.setCell ⟨gr, j * 6 + i, none⟩ (.int .i64 z)) := by
  obtain ⟨hb, xs, h1, h2⟩ := h
  obtain ⟨x, hx⟩ : ∃ x, xs[j]? = some x := ⟨_, List.getElem?_eq_getElem (by omega)⟩
  have hs := own_set (j := j * 6 + i) h2 (.int .i64 z)
  refine ⟨hb.setCell (.inl (.inr rfl)) _, ?_⟩
  rcases (show i = 0 ∨ i = 1 ∨ i = 2 ∨ i = 3 by omega) with rfl | rfl | rfl | rfl
  · rw [flat_setP xs j 0 (by omega) _ x ⟨z, x.ti, x.la, x.si, x.ky, x.en⟩ hx rfl] at hs
    exact ⟨_, by simpa using h1, hs⟩
  · rw [flat_setP xs j 1 (by omega) _ x ⟨x.wi, z, x.la, x.si, x.ky, x.en⟩ hx rfl] at hs
    exact ⟨_, by simpa using h1, hs⟩
  · rw [flat_setP xs j 2 (by omega) _ x ⟨x.wi, x.ti, z, x.si, x.ky, x.en⟩ hx rfl] at hs
    exact ⟨_, by simpa using h1, hs⟩
  · rw [flat_setP xs j 3 (by omega) _ x ⟨x.wi, x.ti, x.la, z, x.ky, x.en⟩ hx rfl] at hs
    exact ⟨_, by simpa using h1, hs⟩
theorem Only.trans' {T : TypeId} {g gr m cap : Nat} {w w0 w' : World} (h : Only g w w0) (k : CX T w.heap.size g gr m cap w0 w') (hg : w.heap.size ≤ gr) : Only g w w' :=
  ⟨k.but.os.trans h.os, k.but.tape.trans h.tape, k.but.output.trans h.output, Nat.le_trans h.size k.but.size, fun i hi hn => (k.but.block i (Nat.lt_of_lt_of_le hi h.size) (by rintro (h' | h') <;> omega)).trans (h.block i hi hn)⟩
/-- What the slots hold: a packet's number is turned. -/
def IPa (N g gr j m cap : Nat) : Nat → Value → World → Prop
  | 0, v, _ => v = .slice (some ⟨gr, 0, none⟩) m cap
  | 1, v, _ => v = .int .i64 j
  | 2, v, _ => v = .slice (some ⟨gr, 0, none⟩) m cap
  | 3, v, _ => v = .int .i64 j
  | 4, v, _ => v = .pointer (some ⟨gr, j * 6, none⟩)
  | 5, v, _ => v = .pointer (some ⟨gr, j * 6, none⟩)
  | 6, v, _ => VAny v
  | 7, v, w => LRow N 3 [-3, 0, 5] v w
  | 8, v, _ => v = .pointer (some ⟨g, 0, none⟩)
  | 9, v, _ => VInt 0 2 v
  | 10, v, w => LCell N 3 [-3, 0, 5] v w
  | 11, v, _ => VInt (-3) 5 v
  | 12, v, _ => VAny v
  | 13, v, _ => v = .pointer (some ⟨gr, j * 6, none⟩)
  | 14, v, _ => v = .pointer (some ⟨gr, j * 6, none⟩)
  | _, _, _ => True
theorem IPa.but {N g gr j0 m cap : Nat} (hN : g < N ∧ gr < N) (j : Nat) (v : Value) (w w' : World) (ho : But (fun k => k = g ∨ k = gr) w w') (h : IPa N g gr j0 m cap j v w) : IPa N g gr j0 m cap j v w' := by
  unfold IPa at *
  split at h <;> first | exact LRow.but h ho (by omega) | exact LCell.but h ho (by omega) | exact h
/-- What the slots hold: a packet's time is turned. -/
def IPb (g gr j m cap : Nat) : Nat → Value → World → Prop
  | 0, v, _ => v = .slice (some ⟨gr, 0, none⟩) m cap
  | 1, v, _ => v = .int .i64 j
  | 2, v, _ => v = .slice (some ⟨gr, 0, none⟩) m cap
  | 3, v, _ => v = .int .i64 j
  | 4, v, _ => v = .pointer (some ⟨gr, j * 6, none⟩)
  | 5, v, _ => v = .pointer (some ⟨gr, j * 6 + 1, none⟩)
  | 6, v, _ => VAny v
  | 7, v, _ => v = .pointer (some ⟨g, 0, none⟩)
  | 8, v, _ => VInt 0 1 v
  | 9, v, _ => VAny v
  | 10, v, _ => VAny v
  | 11, v, _ => v = .pointer (some ⟨gr, j * 6, none⟩)
  | 12, v, _ => v = .pointer (some ⟨gr, j * 6 + 1, none⟩)
  | _, _, _ => True
theorem IPb.but {g gr j0 m cap : Nat} (j : Nat) (v : Value) (w w' : World) (ho : But (fun k => k = g ∨ k = gr) w w') (h : IPb g gr j0 m cap j v w) : IPb g gr j0 m cap j v w' := by
  unfold IPb at *
  split at h <;> exact h

/-- Packets were drawn. -/
def PksDrawn (T : TypeId) (B g K m : Nat) (w : World) (e : Ending) (w' : World) : Prop := ∃ (v : Value) (xs : List Pk), e = .returned v ∧ xs.length ≤ m ∧ w'.ownsRow w.heap.size T 6 v xs.length (xs.flatMap Pk.c) ∧ Rd w' B g K ∧ Only g w w'
theorem one_pkd (x : Pk) : ∀ u ∈ x.c, u.oneCell' = true := one_pk x

set_option maxHeartbeats 8000000 in
set_option maxRecDepth 100000 in
theorem l91Packets_any (B g K m : Nat) (w : World) (h : Rd w B g K) (hK : K ≤ 1099511600000) (hm : m ≤ 40) :
    Calls Tryd.prog 47 #[.pointer (some ⟨g, 0, none⟩), .int .i64 m] w (PksDrawn 24 B g (K + 1000) m w) := by
  have hl := h.lt
  have hgw : g < w.heap.size := hl.2
  obtain ⟨i0, hi0, hz0, hz1, hz2⟩ := info_parts pki_info
  have hall0 := (Below.refl w.heap.size w).alloc (Nat.le_refl _) (.cells #[] 24)
  have HE := Lib.hid (own_empty w w.heap.size 24 6 (Nat.le_refl _))
  go_enter Tryd.func47, Tryd.ntmps47
  go_wp2_with fail
  go_wp2_with fail
  refine (pick_any _ _ _ _ _ (h.below hall0) (by omega) (by omega)).mono ?_
  rintro e w_p ⟨p, rfl, p_0, p_1, hrd_p, ho_p, hsz_p⟩
  have p_u := p_1 (by omega)
  have hlt_p := hrd_p.lt
  clear p_1
  go_wp2_with fail
  refine (pick_any _ _ _ _ _ hrd_p (by omega) (by omega)).mono ?_
  rintro e w_q ⟨q, rfl, q_0, q_1, hrd_q, ho_q, hsz_q⟩
  have q_u := q_1 (by omega)
  have hlt_q := hrd_q.lt
  clear q_1
  go_wp2_with fail
  refine (pick_any _ _ _ _ _ hrd_q (by omega) (by omega)).mono ?_
  rintro e w_r ⟨r, rfl, r_0, r_1, hrd_r, ho_r, hsz_r⟩
  have r_u := r_1 (by omega)
  have hlt_r := hrd_r.lt
  clear r_1
  have m2 : 30 * r ≤ 270 := by omega
  have HE3 := Lib.hid (own_only (own_only (own_only HE.out ho_p (by omega)) ho_q (by omega)) ho_r (by omega))
  have hO : Only g w w_r := (((Only.of_below hall0).trans ho_p).trans ho_q).trans ho_r
  have hrd := hrd_r.more (K' := K + 10) (by omega)
  clear ho_p ho_q ho_r hsz_p hsz_q hsz_r hrd_p hrd_q hrd_r h hall0 HE
  obtain ⟨p, rfl⟩ := Int.eq_ofNat_of_zero_le p_0
  have hpm : p ≤ m := by omega
  go_wp2_with fail
  generalize w_r = wA at *
  go_loopw [5, 7, 8, 9, 10, 11] (fun v wd tm bg ky i wr => ∃ (k : Nat) (xs : List Pk) (zw zt : Int) (b1 b2 : Bool), k ≤ p ∧ i = .int .i64 k ∧ wd = .int .i64 zw ∧ tm = .int .i64 zt ∧ bg = .bool b1 ∧ ky = .bool b2 ∧ xs.length = k ∧ wr.ownsRow w.heap.size 24 6 v k (xs.flatMap Pk.c) ∧ Rd wr B g (K + 10 + 20 * k) ∧ Only g w wr) (fun _ _ _ _ _ i _ => p - (intOf i).toNat)
  case atStart => exact ⟨0, [], _, _, _, _, by omega, rfl, rfl, rfl, rfl, rfl, rfl, by simpa using HE3.out, hrd, hO⟩
  case round =>
    clear HE3 hrd hO
    obtain ⟨k, xs, zw, zt, b1, b2, hk, rfl, rfl, rfl, rfl, rfl, hxs, hown, hrd, hO⟩ := hrel
    by_cases hlt : k < p
    · have e0 : decide ((k : Int) < (p : Int)) = true := by simp; omega
      have e0' : decide (k < p) = true := by simp; omega
      obtain ⟨KK, hKK⟩ : ∃ KK, K + 10 + 20 * k = KK := ⟨_, rfl⟩
      rw [hKK] at hrd
      have hKb : KK + 60 ≤ 1099511627776 := by omega
      have HOW := Lib.hid hown
      clear hown
      go_wp2_with fail
      refine (pick_any _ _ _ _ _ hrd (by omega) (by omega)).mono ?_
      rintro e w_a ⟨a, rfl, a_0, a_1, hrd_a, ho_a, hsz_a⟩
      have a_u := a_1 (by omega)
      have hlt_a := hrd_a.lt
      clear a_1
      obtain ⟨lb, hlb⟩ : ∃ lb, (a == 0) = lb := ⟨_, rfl⟩
      have HO1 := Lib.hid (own_only HOW.out ho_a hgw)
      have hO1 : Only g w w_a := hO.trans ho_a
      clear ho_a hsz_a HOW hO
      go_upto_if 32 with fail
      go_cut [10] (fun ky wx => ∃ kb : Bool, ky = .bool kb ∧ Rd wx B g (KK + 4) ∧ Only g w_a wx)
      case first =>
        cases b1
        · go_wp2_with fail
          go_meet
          case rel => exact ⟨_, rfl, hrd_a.more (by omega), Only.refl _ _⟩
        · by_cases hk0 : k = 0
          · have f1 : ((k : Int) == 0) = true := by simp; omega
            clear hk0
            go_wp2_with fail
            refine (pick_any _ _ _ _ _ hrd_a (by omega) (by omega)).mono ?_
            rintro e w_b ⟨b, rfl, b_0, b_1, hrd_b, ho_b, hsz_b⟩
            have b_u := b_1 (by omega)
            have hlt_b := hrd_b.lt
            clear b_1
            by_cases hb : 0 < b
            · have f2 : decide (0 < b) = true := by simpa using hb
              go_wp2_with fail
              go_meet
              case rel => exact ⟨_, rfl, hrd_b.more (by omega), ho_b⟩
            · have f2 : decide (0 < b) = false := by simpa using hb
              go_wp2_with fail
              refine (pick_any _ _ _ _ _ hrd_b (by omega) (by omega)).mono ?_
              rintro e w_c ⟨c, rfl, c_0, c_1, hrd_c, ho_c, hsz_c⟩
              have c_u := c_1 (by omega)
              have hlt_c := hrd_c.lt
              clear c_1
              go_wp2_with fail
              go_meet
              case rel => exact ⟨_, rfl, hrd_c.more (by omega), ho_b.trans ho_c⟩
          · have f1 : ((k : Int) == 0) = false := by simp; omega
            clear hk0
            go_wp2_with fail
            refine (pick_any _ _ _ _ _ hrd_a (by omega) (by omega)).mono ?_
            rintro e w_c ⟨c, rfl, c_0, c_1, hrd_c, ho_c, hsz_c⟩
            have c_u := c_1 (by omega)
            have hlt_c := hrd_c.lt
            clear c_1
            go_wp2_with fail
            go_meet
            case rel => exact ⟨_, rfl, hrd_c.more (by omega), ho_c⟩
      case rest =>
        obtain ⟨kb, rfl, hrd2, ho2⟩ := hcut
        have HO2 := Lib.hid (own_only HO1.out ho2 hgw)
        have hO2 : Only g w wc := hO1.trans ho2
        clear HO1 hO1 ho2 hrd_a
        go_upto_region 13 with fail
        go_cut [5] (fun v' wx => ∃ x : Pk, wx.ownsRow w.heap.size 24 6 v' (k + 1) ((xs ++ [x]).flatMap Pk.c) ∧ Rd wx B g (KK + 6) ∧ Only g w wx)
        case first =>
          go_wp2_with fail
          refine (pick_any _ _ _ _ _ hrd2 (by omega) (by omega)).mono ?_
          rintro e w_x0 ⟨x0, rfl, x0_0, x0_1, hrd_x0, ho_x0, hsz_x0⟩
          have x0_u := x0_1 (by omega)
          have hlt_x0 := hrd_x0.lt
          clear x0_1
          go_wp2_with fail
          refine (pick_any _ _ _ _ _ hrd_x0 (by omega) (by omega)).mono ?_
          rintro e w_d ⟨d, rfl, d_0, d_1, hrd_d, ho_d, hsz_d⟩
          have d_u := d_1 (by omega)
          have hlt_d := hrd_d.lt
          clear d_1
          have HO3 := Lib.hid (own_only (own_only HO2.out ho_x0 hgw) ho_d hgw)
          have hO3 : Only g w w_d := (hO2.trans ho_x0).trans ho_d
          have hszw := hO3.size
          clear ho_x0 ho_d hsz_x0 hsz_d hrd_x0 HO2 hO2
          obtain ⟨kc, hkc⟩ : ∃ kc, (kb && b1) = kc := ⟨_, rfl⟩
          have HNB := Lib.hid (fun kc : Bool => show Sl (w_d.alloc (.cells #[.int .i64 zw, .int .i64 zt, .int .i64 x0, .int .i64 (1 + d), .bool kc, .bool lb] 24)) (w_d.heap.size + 1) 6 (some ⟨w_d.heap.size, 0, none⟩) 1 (Pk.c ⟨zw, zt, x0, 1 + d, kc, lb⟩) from ⟨rfl, fun _ => ⟨w_d.heap.size, 0, rfl, by omega, fun j u hu => by
            rw [Nat.zero_add, (Bk.new w_d 24 #[.int .i64 zw, .int .i64 zt, .int .i64 x0, .int .i64 (1 + d), .bool kc, .bool lb]).cell j]; simpa [Pk.c] using hu⟩⟩)
          clear hkc kc
          cases kb <;> cases b1
          · go_wp2_with (at_builtin; refine wpList_app _ rfl _ _ 40 rfl w.heap.size 24 i0 (.agg #[.int .i64 0, .int .i64 0, .int .i64 0, .int .i64 0, .bool false, .bool false]) 6 40 Tryd.underlying40 hi0 hz0 hz1 hz2 rfl (by omega) _ k _ rfl (HO3.out.alloc _) (w_d.heap.size + 1) (some ⟨w_d.heap.size, 0, none⟩) 1 1 _ rfl (HNB.out false) (one_pkd _) (by unfold maxLen; omega) (by omega) (by simp; omega) ?_; intro v2 w3 hown2 hgrow hat)
            have hr3 : Rd w3 B g (KK + 6) := by
              have h1 := hrd_d.below ((Below.refl w_d.heap.size w_d).alloc (Nat.le_refl _) (.cells #[.int .i64 zw, .int .i64 zt, .int .i64 x0, .int .i64 (1 + d), .bool false, .bool lb] 24))
              exact Rd.grown_own h1 hgrow (HO3.out.alloc _) hgw
            have hO4 : Only g w w3 := Only.grown_own (hO3.alloc _) hgrow (HO3.out.alloc _) (Nat.le_refl _)
            have HO4 := Lib.hid (show w3.ownsRow w.heap.size 24 6 v2 (k + 1) ((xs ++ [(⟨zw, zt, x0, 1 + d, false, lb⟩ : Pk)]).flatMap Pk.c) by rw [List.flatMap_append]; simpa using hown2)
            clear hown2 hgrow hat HO3 hO3 hrd_d
            go_wp2_with fail
            go_meet
            case rel => exact ⟨_, HO4.out, hr3, hO4⟩
          · go_wp2_with (at_builtin; refine wpList_app _ rfl _ _ 40 rfl w.heap.size 24 i0 (.agg #[.int .i64 0, .int .i64 0, .int .i64 0, .int .i64 0, .bool false, .bool false]) 6 40 Tryd.underlying40 hi0 hz0 hz1 hz2 rfl (by omega) _ k _ rfl (HO3.out.alloc _) (w_d.heap.size + 1) (some ⟨w_d.heap.size, 0, none⟩) 1 1 _ rfl (HNB.out false) (one_pkd _) (by unfold maxLen; omega) (by omega) (by simp; omega) ?_; intro v2 w3 hown2 hgrow hat)
            have hr3 : Rd w3 B g (KK + 6) := by
              have h1 := hrd_d.below ((Below.refl w_d.heap.size w_d).alloc (Nat.le_refl _) (.cells #[.int .i64 zw, .int .i64 zt, .int .i64 x0, .int .i64 (1 + d), .bool false, .bool lb] 24))
              exact Rd.grown_own h1 hgrow (HO3.out.alloc _) hgw
            have hO4 : Only g w w3 := Only.grown_own (hO3.alloc _) hgrow (HO3.out.alloc _) (Nat.le_refl _)
            have HO4 := Lib.hid (show w3.ownsRow w.heap.size 24 6 v2 (k + 1) ((xs ++ [(⟨zw, zt, x0, 1 + d, false, lb⟩ : Pk)]).flatMap Pk.c) by rw [List.flatMap_append]; simpa using hown2)
            clear hown2 hgrow hat HO3 hO3 hrd_d
            go_wp2_with fail
            go_meet
            case rel => exact ⟨_, HO4.out, hr3, hO4⟩
          · go_wp2_with (at_builtin; refine wpList_app _ rfl _ _ 40 rfl w.heap.size 24 i0 (.agg #[.int .i64 0, .int .i64 0, .int .i64 0, .int .i64 0, .bool false, .bool false]) 6 40 Tryd.underlying40 hi0 hz0 hz1 hz2 rfl (by omega) _ k _ rfl (HO3.out.alloc _) (w_d.heap.size + 1) (some ⟨w_d.heap.size, 0, none⟩) 1 1 _ rfl (HNB.out false) (one_pkd _) (by unfold maxLen; omega) (by omega) (by simp; omega) ?_; intro v2 w3 hown2 hgrow hat)
            have hr3 : Rd w3 B g (KK + 6) := by
              have h1 := hrd_d.below ((Below.refl w_d.heap.size w_d).alloc (Nat.le_refl _) (.cells #[.int .i64 zw, .int .i64 zt, .int .i64 x0, .int .i64 (1 + d), .bool false, .bool lb] 24))
              exact Rd.grown_own h1 hgrow (HO3.out.alloc _) hgw
            have hO4 : Only g w w3 := Only.grown_own (hO3.alloc _) hgrow (HO3.out.alloc _) (Nat.le_refl _)
            have HO4 := Lib.hid (show w3.ownsRow w.heap.size 24 6 v2 (k + 1) ((xs ++ [(⟨zw, zt, x0, 1 + d, false, lb⟩ : Pk)]).flatMap Pk.c) by rw [List.flatMap_append]; simpa using hown2)
            clear hown2 hgrow hat HO3 hO3 hrd_d
            go_wp2_with fail
            go_meet
            case rel => exact ⟨_, HO4.out, hr3, hO4⟩
          · go_wp2_with (at_builtin; refine wpList_app _ rfl _ _ 40 rfl w.heap.size 24 i0 (.agg #[.int .i64 0, .int .i64 0, .int .i64 0, .int .i64 0, .bool false, .bool false]) 6 40 Tryd.underlying40 hi0 hz0 hz1 hz2 rfl (by omega) _ k _ rfl (HO3.out.alloc _) (w_d.heap.size + 1) (some ⟨w_d.heap.size, 0, none⟩) 1 1 _ rfl (HNB.out true) (one_pkd _) (by unfold maxLen; omega) (by omega) (by simp; omega) ?_; intro v2 w3 hown2 hgrow hat)
            have hr3 : Rd w3 B g (KK + 6) := by
              have h1 := hrd_d.below ((Below.refl w_d.heap.size w_d).alloc (Nat.le_refl _) (.cells #[.int .i64 zw, .int .i64 zt, .int .i64 x0, .int .i64 (1 + d), .bool true, .bool lb] 24))
              exact Rd.grown_own h1 hgrow (HO3.out.alloc _) hgw
            have hO4 : Only g w w3 := Only.grown_own (hO3.alloc _) hgrow (HO3.out.alloc _) (Nat.le_refl _)
            have HO4 := Lib.hid (show w3.ownsRow w.heap.size 24 6 v2 (k + 1) ((xs ++ [(⟨zw, zt, x0, 1 + d, true, lb⟩ : Pk)]).flatMap Pk.c) by rw [List.flatMap_append]; simpa using hown2)
            clear hown2 hgrow hat HO3 hO3 hrd_d
            go_wp2_with fail
            go_meet
            case rel => exact ⟨_, HO4.out, hr3, hO4⟩
        case rest =>
          obtain ⟨x, hown3, hrd3, hO3⟩ := hcut
          have HO3 := Lib.hid hown3
          clear hown3 hrd2 HO2 hO2
          go_wp2_with fail
          refine (pick_any _ _ _ _ _ hrd3 (by omega) (by omega)).mono ?_
          rintro e w_s ⟨s, rfl, s_0, s_1, hrd_s, ho_s, hsz_s⟩
          have s_u := s_1 (by omega)
          have hlt_s := hrd_s.lt
          clear s_1
          go_wp2_with fail
          refine (pick_any _ _ _ _ _ hrd_s (by omega) (by omega)).mono ?_
          rintro e w_t ⟨t, rfl, t_0, t_1, hrd_t, ho_t, hsz_t⟩
          have t_u := t_1 (by omega)
          have hlt_t := hrd_t.lt
          clear t_1
          have HO4 := Lib.hid (own_only (own_only HO3.out ho_s hgw) ho_t hgw)
          have hO4 : Only g w w_t := (hO3.trans ho_s).trans ho_t
          clear ho_s ho_t hsz_s hsz_t hrd_s HO3 hO3
          go_upto_region 15 with fail
          go_cut [9] (fun bg wx => ∃ b3 : Bool, bg = .bool b3 ∧ Rd wx B g (KK + 9) ∧ Only g w_t wx)
          case first =>
            cases lb
            · go_wp2_with fail
              refine (pick_any _ _ _ _ _ hrd_t (by omega) (by omega)).mono ?_
              rintro e w_v ⟨v, rfl, v_0, v_1, hrd_v, ho_v, hsz_v⟩
              have v_u := v_1 (by omega)
              have hlt_v := hrd_v.lt
              clear v_1
              go_wp2_with fail
              go_meet
              case rel => exact ⟨_, rfl, hrd_v.more (by omega), ho_v⟩
            · go_wp2_with fail
              go_meet
              case rel => exact ⟨_, rfl, hrd_t.more (by omega), Only.refl _ _⟩
          case rest =>
            obtain ⟨b3, rfl, hrd5, ho5⟩ := hcut
            have HO5 := Lib.hid (own_only HO4.out ho5 hgw)
            have hO5 := hO4.trans ho5
            clear HO4 hO4 ho5 hrd_t
            cases b3
            · go_wp2
              go_roundw
              case rel => exact ⟨k + 1, _, _, _, _, _, by omega, by go_num, rfl, rfl, rfl, rfl, by simp [hxs], HO5.out, hrd5.more (by omega), hO5⟩
              case measure => simp [intOf]; omega
            · go_wp2
              go_roundw
              case rel => exact ⟨k + 1, _, _, _, _, _, by omega, by go_num, rfl, rfl, rfl, rfl, by simp [hxs], HO5.out, hrd5.more (by omega), hO5⟩
              case measure => simp [intOf]; omega
    · obtain rfl : k = p := by omega
      have e0 : decide ((k : Int) < (k : Int)) = false := by simp
      have e0' : decide (k < k) = false := by simp
      have HOW := Lib.hid hown
      clear hown
      by_cases hk0 : k = 0
      · have e1 : decide (0 < (k : Int)) = false := by simp; omega
        have e1' : decide (0 < k) = false := by simp; omega
        have HX := Lib.hid (show xs.length ≤ m ∧ wr.ownsRow w.heap.size 24 6 u5 xs.length (xs.flatMap Pk.c) from ⟨by omega, by rw [hxs]; exact HOW.out⟩)
        go_wp2
        go_ret
        exact ⟨_, xs, rfl, HX.out.1, HX.out.2, hrd.more (by omega), hO⟩
      have e1 : decide (0 < (k : Int)) = true := by simp; omega
      have e1' : decide (0 < k) = true := by simp; omega
      obtain ⟨gr, cap, rfl, hgr, hgrl, hcap1, hcap2⟩ := own_head HOW.out (by omega)
      have hrd0 := hrd.more (K' := K + 10 + 20 * 40) (by omega)
      clear hrd
      go_wp2_with fail
      refine (pick_any _ _ _ _ _ hrd0 (by omega) (by omega)).mono ?_
      rintro e w_f ⟨f, rfl, f_0, f_1, hrd_f, ho_f, hsz_f⟩
      have f_u := f_1 (by omega)
      have hlt_f := hrd_f.lt
      clear f_1
      have hO2 := hO.trans ho_f
      have HO2 := Lib.hid (own_only HOW.out ho_f hgw)
      clear HOW hO ho_f hsz_f hrd0
      by_cases hf : f = 0
      · subst hf
        go_wp2_with fail
        refine (pick_any _ _ _ _ _ hrd_f (by omega) (by omega)).mono ?_
        rintro e w_j ⟨j, rfl, j_0, j_1, hrd_j, ho_j, hsz_j⟩
        have j_u := j_1 (by omega)
        have hlt_j := hrd_j.lt
        clear j_1
        obtain ⟨j, rfl⟩ := Int.eq_ofNat_of_zero_le j_0
        have hjk : j < k := by omega
        have hO3 := hO2.trans ho_j
        have HO3 := Lib.hid (own_only HO2.out ho_j hgw)
        have hgr3 : gr < w_j.heap.size := ((own_only HO2.out ho_j hgw).lt gr rfl).2
        have hcx : CX 24 w.heap.size g gr k cap w_j w_j := ⟨But.refl _ _, xs, hxs, HO3.out⟩
        have hrd4 := hrd_j.more (K' := K + 850) (by omega)
        have hgl := hrd_j.lt.2
        clear HO2 hO2 ho_j hsz_j hrd_f hrd_j
        go_wp2_with fail
        refine wp_region_inv (fun n w' => Rd w' B g (K + 850 + n) ∧ CX 24 w.heap.size g gr k cap w_j w') (But (fun k' => k' = g ∨ k' = gr)) (IPa w_j.heap.size g gr j k cap) (by kernel_rfl) (by kernel_rfl) (by kernel_rfl) ⟨Rd.drew hrd4, ⟨hcx.but.drew, hcx.row⟩⟩ (IPa.but ⟨hgl, hgr3⟩) ⟨?_, ?_, ?_, ?_, ?_, ?_, ?_, ?_, ?_, ?_, ?_, ?_, ?_, ?_, ?_, ?_, trivial⟩ ?_
        · intro n x wv hn ⟨hcr, hco⟩ hd
          have HO := Lib.hid hco
          replace hn : n < 16 := hn
          have hlv := hcr.lt
          have hsv := hco.size
          clear hd
          clear hco
          refine ⟨?_⟩
          simp only [fill, Act.put, List.setIfInBounds_toArray, List.set_cons_zero, List.set_cons_succ]
          go_simp
          exact ⟨But.refl _ _, ⟨hcr.more (by omega), HO.out⟩, rfl⟩
        · intro n x wv hn ⟨hcr, hco⟩ hd
          have HO := Lib.hid hco
          replace hn : n < 16 := hn
          have hlv := hcr.lt
          have hsv := hco.size
          clear hd
          clear hco
          refine ⟨?_⟩
          simp only [fill, Act.put, List.setIfInBounds_toArray, List.set_cons_zero, List.set_cons_succ]
          go_simp
          exact ⟨But.refl _ _, ⟨hcr.more (by omega), HO.out⟩, rfl⟩
        · intro n x wv hn ⟨hcr, hco⟩ hd
          have HO := Lib.hid hco
          replace hn : n < 16 := hn
          have hlv := hcr.lt
          have hsv := hco.size
          clear hd
          clear hco
          refine ⟨?_⟩
          simp only [fill, Act.put, List.setIfInBounds_toArray, List.set_cons_zero, List.set_cons_succ]
          go_simp
          exact ⟨But.refl _ _, ⟨hcr.more (by omega), HO.out⟩, rfl⟩
        · intro n x wv hn ⟨hcr, hco⟩ hd
          have HO := Lib.hid hco
          replace hn : n < 16 := hn
          have hlv := hcr.lt
          have hsv := hco.size
          clear hd
          clear hco
          refine ⟨?_⟩
          simp only [fill, Act.put, List.setIfInBounds_toArray, List.set_cons_zero, List.set_cons_succ]
          go_simp
          exact ⟨But.refl _ _, ⟨hcr.more (by omega), HO.out⟩, rfl⟩
        · intro n x wv hn ⟨hcr, hco⟩ hd
          have HO := Lib.hid hco
          replace hn : n < 16 := hn
          have hlv := hcr.lt
          have hsv := hco.size
          simp [IPa, Region.binds] at hd
          obtain ⟨hx2, hx3⟩ := hd
          clear hco
          refine ⟨?_⟩
          simp only [fill, Act.put, List.setIfInBounds_toArray, List.set_cons_zero, List.set_cons_succ]
          go_simp
          exact ⟨But.refl _ _, ⟨hcr.more (by omega), HO.out⟩, rfl⟩
        · intro n x wv hn ⟨hcr, hco⟩ hd
          have HO := Lib.hid hco
          replace hn : n < 16 := hn
          have hlv := hcr.lt
          have hsv := hco.size
          simp [IPa, Region.binds] at hd
          have hx4 := hd
          clear hco
          refine ⟨?_⟩
          simp only [fill, Act.put, List.setIfInBounds_toArray, List.set_cons_zero, List.set_cons_succ]
          go_simp
          exact ⟨But.refl _ _, ⟨hcr.more (by omega), HO.out⟩, rfl⟩
        · intro n x wv hn ⟨hcr, hco⟩ hd
          have HO := Lib.hid hco
          replace hn : n < 16 := hn
          have hlv := hcr.lt
          have hsv := hco.size
          simp [IPa, Region.binds] at hd
          have hx5 := hd
          obtain ⟨hfz, zc, hzc⟩ := hco.cell (j := j) (i := 0) hjk (by omega)
          simp only [Nat.add_zero] at hfz hzc
          clear hco
          refine ⟨?_⟩
          simp only [fill, Act.put, List.setIfInBounds_toArray, List.set_cons_zero, List.set_cons_succ]
          go_simp
          exact ⟨But.refl _ _, ⟨hcr.more (by omega), HO.out⟩, _, rfl⟩
        · intro n x wv hn ⟨hcr, hco⟩ hd
          have HO := Lib.hid hco
          replace hn : n < 16 := hn
          have hlv := hcr.lt
          have hsv := hco.size
          clear hd
          clear hco
          refine ⟨?_⟩
          simp only [fill, Act.put, List.setIfInBounds_toArray, List.set_cons_zero, List.set_cons_succ]
          go_simp
          exact ⟨(But.refl _ _).alloc _, ⟨(hcr.below ((Below.refl _ _).alloc (Nat.le_refl _) _)).more (by omega), HO.out.alloc _⟩, _, rfl, hsv, Bk.new _ _ _⟩
        · intro n x wv hn ⟨hcr, hco⟩ hd
          have HO := Lib.hid hco
          replace hn : n < 16 := hn
          have hlv := hcr.lt
          have hsv := hco.size
          clear hd
          clear hco
          refine ⟨?_⟩
          simp only [fill, Act.put, List.setIfInBounds_toArray, List.set_cons_zero, List.set_cons_succ]
          go_simp
          exact ⟨But.refl _ _, ⟨hcr.more (by omega), HO.out⟩, rfl⟩
        · intro n x wv hn ⟨hcr, hco⟩ hd
          have HO := Lib.hid hco
          replace hn : n < 16 := hn
          have hlv := hcr.lt
          have hsv := hco.size
          simp [IPa, Region.binds] at hd
          have hx8 := hd
          clear hco
          refine ⟨?_⟩
          simp only [fill, Act.put, List.setIfInBounds_toArray, List.set_cons_zero, List.set_cons_succ]
          go_simp
          refine (pick_any B g _ _ _ hcr (by omega) (by omega)).mono ?_
          rintro e w2 ⟨r, rfl, r0, r1, hrd2, ho2, _⟩
          exact ⟨But.of_only ho2 (.inl rfl), ⟨hrd2.more (by omega), HO.out.only ho2 hgw⟩, r, rfl, r0, by have := r1 (by omega); omega⟩
        · intro n x wv hn ⟨hcr, hco⟩ hd
          have HO := Lib.hid hco
          replace hn : n < 16 := hn
          have hlv := hcr.lt
          have hsv := hco.size
          simp [IPa, Region.binds] at hd
          obtain ⟨⟨b, hx7, hbN, hbk⟩, r, hx9, r0, r1⟩ := hd
          obtain ⟨k9, rfl⟩ := Int.eq_ofNat_of_zero_le r0
          have hbk := Lib.hid hbk
          have r3 : (k9 : Int) < 3 := by omega
          clear hco
          refine ⟨?_⟩
          simp only [fill, Act.put, List.setIfInBounds_toArray, List.set_cons_zero, List.set_cons_succ]
          go_simp
          exact ⟨But.refl _ _, ⟨hcr.more (by omega), HO.out⟩, b, k9, rfl, hbN, (by simp; omega), hbk.out⟩
        · intro n x wv hn ⟨hcr, hco⟩ hd
          have HO := Lib.hid hco
          replace hn : n < 16 := hn
          have hlv := hcr.lt
          have hsv := hco.size
          simp [IPa, Region.binds] at hd
          obtain ⟨b, k9, hx10, hbN, hk9, hbk⟩ := hd
          obtain ⟨zq, hzq, hz0, hz1⟩ := lit_cell [-3, 0, 5] (-3) 5 hbk (by decide) hk9
          clear hco
          refine ⟨?_⟩
          simp only [fill, Act.put, List.setIfInBounds_toArray, List.set_cons_zero, List.set_cons_succ]
          go_simp
          exact ⟨But.refl _ _, ⟨hcr.more (by omega), HO.out⟩, zq, rfl, hz0, hz1⟩
        · intro n x wv hn ⟨hcr, hco⟩ hd
          have HO := Lib.hid hco
          replace hn : n < 16 := hn
          have hlv := hcr.lt
          have hsv := hco.size
          simp [IPa, Region.binds] at hd
          obtain ⟨⟨z1, hx6⟩, z2, hx11, h20, h21⟩ := hd
          clear hco
          refine ⟨?_⟩
          simp only [fill, Act.put, List.setIfInBounds_toArray, List.set_cons_zero, List.set_cons_succ]
          go_simp
          exact ⟨But.refl _ _, ⟨hcr.more (by omega), HO.out⟩, _, rfl⟩
        · intro n x wv hn ⟨hcr, hco⟩ hd
          have HO := Lib.hid hco
          replace hn : n < 16 := hn
          have hlv := hcr.lt
          have hsv := hco.size
          simp [IPa, Region.binds] at hd
          obtain ⟨hx0, hx1⟩ := hd
          clear hco
          refine ⟨?_⟩
          simp only [fill, Act.put, List.setIfInBounds_toArray, List.set_cons_zero, List.set_cons_succ]
          go_simp
          exact ⟨But.refl _ _, ⟨hcr.more (by omega), HO.out⟩, rfl⟩
        · intro n x wv hn ⟨hcr, hco⟩ hd
          have HO := Lib.hid hco
          replace hn : n < 16 := hn
          have hlv := hcr.lt
          have hsv := hco.size
          simp [IPa, Region.binds] at hd
          have hx13 := hd
          clear hco
          refine ⟨?_⟩
          simp only [fill, Act.put, List.setIfInBounds_toArray, List.set_cons_zero, List.set_cons_succ]
          go_simp
          exact ⟨But.refl _ _, ⟨hcr.more (by omega), HO.out⟩, rfl⟩
        · intro n x wv hn ⟨hcr, hco⟩ hd
          have HO := Lib.hid hco
          replace hn : n < 16 := hn
          have hlv := hcr.lt
          have hsv := hco.size
          simp [IPa, Region.binds] at hd
          obtain ⟨hx14, ⟨z3, hx12⟩, _⟩ := hd
          obtain ⟨hfz, zc, hzc⟩ := hco.cell (j := j) (i := 0) hjk (by omega)
          simp only [Nat.add_zero] at hfz hzc
          have hcs := hco.store (j := j) (i := 0) hjk (by omega) z3
          simp only [Nat.add_zero] at hcs
          have HCS := Lib.hid hcs
          clear hcs
          clear hco
          refine ⟨?_⟩
          simp only [fill, Act.put, List.setIfInBounds_toArray, List.set_cons_zero, List.set_cons_succ]
          go_simp
          exact ⟨But.setCell (But.refl _ _) (.inl (.inr rfl)) _, ⟨Rd.more (K := K + 850 + n) (Rd.setCell hcr (by show g < gr; omega) _) (by omega), HCS.out⟩, undef, trivial⟩
        · intro x w5 ⟨hcr, hco⟩ _
          replace hcr : Rd w5 B g (K + 866) := hcr
          have hO5 : Only g w w5 := hO3.trans' hco hgr
          obtain ⟨hbut5, hrow5⟩ := hco
          have hcx5 : CX 24 w.heap.size g gr k cap w5 w5 := ⟨But.refl _ _, hrow5⟩
          have hgl5 := hcr.lt.2
          have hgr5 : gr < w5.heap.size := by have := hbut5.size; omega
          clear hbut5 hrow5 hcx HO3 hO3 hrd4
          refine ⟨?_⟩
          simp only [fill, Act.put, List.setIfInBounds_toArray, List.set_cons_zero, List.set_cons_succ]
          go_wp2_with fail
          refine wp_region_inv (fun n w' => Rd w' B g (K + 866 + n) ∧ CX 24 w.heap.size g gr k cap w5 w') (But (fun k' => k' = g ∨ k' = gr)) (IPb g gr j k cap) (by kernel_rfl) (by kernel_rfl) (by kernel_rfl) ⟨Rd.drew hcr, ⟨hcx5.but.drew, hcx5.row⟩⟩ IPb.but ⟨?_, ?_, ?_, ?_, ?_, ?_, ?_, ?_, ?_, ?_, ?_, ?_, ?_, ?_, trivial⟩ ?_
          · intro n x wv hn ⟨hcr, hco⟩ hd
            have HO := Lib.hid hco
            replace hn : n < 14 := hn
            have hlv := hcr.lt
            have hsv := hco.size
            clear hd
            clear hco
            refine ⟨?_⟩
            simp only [fill, Act.put, List.setIfInBounds_toArray, List.set_cons_zero, List.set_cons_succ]
            go_simp
            exact ⟨But.refl _ _, ⟨hcr.more (by omega), HO.out⟩, rfl⟩
          · intro n x wv hn ⟨hcr, hco⟩ hd
            have HO := Lib.hid hco
            replace hn : n < 14 := hn
            have hlv := hcr.lt
            have hsv := hco.size
            clear hd
            clear hco
            refine ⟨?_⟩
            simp only [fill, Act.put, List.setIfInBounds_toArray, List.set_cons_zero, List.set_cons_succ]
            go_simp
            exact ⟨But.refl _ _, ⟨hcr.more (by omega), HO.out⟩, rfl⟩
          · intro n x wv hn ⟨hcr, hco⟩ hd
            have HO := Lib.hid hco
            replace hn : n < 14 := hn
            have hlv := hcr.lt
            have hsv := hco.size
            clear hd
            clear hco
            refine ⟨?_⟩
            simp only [fill, Act.put, List.setIfInBounds_toArray, List.set_cons_zero, List.set_cons_succ]
            go_simp
            exact ⟨But.refl _ _, ⟨hcr.more (by omega), HO.out⟩, rfl⟩
          · intro n x wv hn ⟨hcr, hco⟩ hd
            have HO := Lib.hid hco
            replace hn : n < 14 := hn
            have hlv := hcr.lt
            have hsv := hco.size
            clear hd
            clear hco
            refine ⟨?_⟩
            simp only [fill, Act.put, List.setIfInBounds_toArray, List.set_cons_zero, List.set_cons_succ]
            go_simp
            exact ⟨But.refl _ _, ⟨hcr.more (by omega), HO.out⟩, rfl⟩
          · intro n x wv hn ⟨hcr, hco⟩ hd
            have HO := Lib.hid hco
            replace hn : n < 14 := hn
            have hlv := hcr.lt
            have hsv := hco.size
            simp [IPb, Region.binds] at hd
            obtain ⟨hx2, hx3⟩ := hd
            clear hco
            refine ⟨?_⟩
            simp only [fill, Act.put, List.setIfInBounds_toArray, List.set_cons_zero, List.set_cons_succ]
            go_simp
            exact ⟨But.refl _ _, ⟨hcr.more (by omega), HO.out⟩, rfl⟩
          · intro n x wv hn ⟨hcr, hco⟩ hd
            have HO := Lib.hid hco
            replace hn : n < 14 := hn
            have hlv := hcr.lt
            have hsv := hco.size
            simp [IPb, Region.binds] at hd
            have hx4 := hd
            clear hco
            refine ⟨?_⟩
            simp only [fill, Act.put, List.setIfInBounds_toArray, List.set_cons_zero, List.set_cons_succ]
            go_simp
            exact ⟨But.refl _ _, ⟨hcr.more (by omega), HO.out⟩, rfl⟩
          · intro n x wv hn ⟨hcr, hco⟩ hd
            have HO := Lib.hid hco
            replace hn : n < 14 := hn
            have hlv := hcr.lt
            have hsv := hco.size
            simp [IPb, Region.binds] at hd
            have hx5 := hd
            obtain ⟨hfz, zc, hzc⟩ := hco.cell (j := j) (i := 1) hjk (by omega)
            clear hco
            refine ⟨?_⟩
            simp only [fill, Act.put, List.setIfInBounds_toArray, List.set_cons_zero, List.set_cons_succ]
            go_simp
            exact ⟨But.refl _ _, ⟨hcr.more (by omega), HO.out⟩, _, rfl⟩
          · intro n x wv hn ⟨hcr, hco⟩ hd
            have HO := Lib.hid hco
            replace hn : n < 14 := hn
            have hlv := hcr.lt
            have hsv := hco.size
            clear hd
            clear hco
            refine ⟨?_⟩
            simp only [fill, Act.put, List.setIfInBounds_toArray, List.set_cons_zero, List.set_cons_succ]
            go_simp
            exact ⟨But.refl _ _, ⟨hcr.more (by omega), HO.out⟩, rfl⟩
          · intro n x wv hn ⟨hcr, hco⟩ hd
            have HO := Lib.hid hco
            replace hn : n < 14 := hn
            have hlv := hcr.lt
            have hsv := hco.size
            simp [IPb, Region.binds] at hd
            have hx7 := hd
            clear hco
            refine ⟨?_⟩
            simp only [fill, Act.put, List.setIfInBounds_toArray, List.set_cons_zero, List.set_cons_succ]
            go_simp
            refine (pick_any B g _ _ _ hcr (by omega) (by omega)).mono ?_
            rintro e w2 ⟨r, rfl, r0, r1, hrd2, ho2, _⟩
            exact ⟨But.of_only ho2 (.inl rfl), ⟨hrd2.more (by omega), HO.out.only ho2 hgw⟩, r, rfl, r0, by have := r1 (by omega); omega⟩
          · intro n x wv hn ⟨hcr, hco⟩ hd
            have HO := Lib.hid hco
            replace hn : n < 14 := hn
            have hlv := hcr.lt
            have hsv := hco.size
            simp [IPb, Region.binds] at hd
            obtain ⟨r, hx8, r0, r1⟩ := hd
            clear hco
            refine ⟨?_⟩
            simp only [fill, Act.put, List.setIfInBounds_toArray, List.set_cons_zero, List.set_cons_succ]
            go_simp
            exact ⟨But.refl _ _, ⟨hcr.more (by omega), HO.out⟩, _, rfl⟩
          · intro n x wv hn ⟨hcr, hco⟩ hd
            have HO := Lib.hid hco
            replace hn : n < 14 := hn
            have hlv := hcr.lt
            have hsv := hco.size
            simp [IPb, Region.binds] at hd
            obtain ⟨⟨z1, hx6⟩, z2, hx9⟩ := hd
            clear hco
            refine ⟨?_⟩
            simp only [fill, Act.put, List.setIfInBounds_toArray, List.set_cons_zero, List.set_cons_succ]
            go_simp
            exact ⟨But.refl _ _, ⟨hcr.more (by omega), HO.out⟩, _, rfl⟩
          · intro n x wv hn ⟨hcr, hco⟩ hd
            have HO := Lib.hid hco
            replace hn : n < 14 := hn
            have hlv := hcr.lt
            have hsv := hco.size
            simp [IPb, Region.binds] at hd
            obtain ⟨hx0, hx1⟩ := hd
            clear hco
            refine ⟨?_⟩
            simp only [fill, Act.put, List.setIfInBounds_toArray, List.set_cons_zero, List.set_cons_succ]
            go_simp
            exact ⟨But.refl _ _, ⟨hcr.more (by omega), HO.out⟩, rfl⟩
          · intro n x wv hn ⟨hcr, hco⟩ hd
            have HO := Lib.hid hco
            replace hn : n < 14 := hn
            have hlv := hcr.lt
            have hsv := hco.size
            simp [IPb, Region.binds] at hd
            have hx11 := hd
            clear hco
            refine ⟨?_⟩
            simp only [fill, Act.put, List.setIfInBounds_toArray, List.set_cons_zero, List.set_cons_succ]
            go_simp
            exact ⟨But.refl _ _, ⟨hcr.more (by omega), HO.out⟩, rfl⟩
          · intro n x wv hn ⟨hcr, hco⟩ hd
            have HO := Lib.hid hco
            replace hn : n < 14 := hn
            have hlv := hcr.lt
            have hsv := hco.size
            simp [IPb, Region.binds] at hd
            obtain ⟨hx12, ⟨z3, hx10⟩, _⟩ := hd
            obtain ⟨hfz, zc, hzc⟩ := hco.cell (j := j) (i := 1) hjk (by omega)
            have hcs := hco.store (j := j) (i := 1) hjk (by omega) z3
            have HCS := Lib.hid hcs
            clear hcs
            clear hco
            refine ⟨?_⟩
            simp only [fill, Act.put, List.setIfInBounds_toArray, List.set_cons_zero, List.set_cons_succ]
            go_simp
            exact ⟨But.setCell (But.refl _ _) (.inl (.inr rfl)) _, ⟨Rd.more (K := K + 866 + n) (Rd.setCell hcr (by show g < gr; omega) _) (by omega), HCS.out⟩, undef, trivial⟩
          · intro x' w6 ⟨hcr6, hco6⟩ _
            replace hcr6 : Rd w6 B g (K + 880) := hcr6
            have hO6 : Only g w w6 := hO5.trans' hco6 hgr
            obtain ⟨hbut6, ys, hys, hrow6⟩ := hco6
            have HX := Lib.hid (show ys.length ≤ m ∧ w6.ownsRow w.heap.size 24 6 (.slice (some ⟨gr, 0, none⟩) k cap) ys.length (ys.flatMap Pk.c) from ⟨by omega, by rw [hys]; exact hrow6⟩)
            clear hbut6 hrow6 hcx5 hcr hO5
            refine ⟨?_⟩
            simp only [fill, Act.put, List.setIfInBounds_toArray, List.set_cons_zero, List.set_cons_succ]
            go_wp2
            go_ret
            exact ⟨_, ys, rfl, HX.out.1, HX.out.2, hcr6.more (by omega), hO6⟩
      · have e2 : (f == 0) = false := by simpa using hf
        have HX := Lib.hid (show xs.length ≤ m ∧ w_f.ownsRow w.heap.size 24 6 (.slice (some ⟨gr, 0, none⟩) k cap) xs.length (xs.flatMap Pk.c) from ⟨by omega, by rw [hxs]; exact HO2.out⟩)
        go_wp2
        go_ret
        exact ⟨_, xs, rfl, HX.out.1, HX.out.2, hrd_f.more (by omega), hO2⟩
end Go.Proofs.YtjpglpglgkopiaaDoor
