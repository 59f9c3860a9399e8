/-
  HeadersBytes, of the program and of the reference.
  Conditions: the slice's memory.
-/
import Derived.Test.YtjpglpglgkopiaaDoorHdC
namespace Go.Proofs.YtjpglpglgkopiaaDoor
open Go.RowKit
set_option linter.unusedVariables false
set_option linter.unusedSimpArgs false

/-- What HeadersBytes answers. -/
structure HmYes (n : Nat) (xs : List Pk) (w : World) (e : Ending) (w' : World) : Prop where
  out : ∃ A c, e = .returned (.tuple #[.slice A (8 * n) c, .bool true]) ∧ w'.ownsRow w.heap.size 3 1 (.slice A (8 * n) c) (8 * n) ((xs.flatMap hB).map (Value.int .i64))
  below : Below w.heap.size w w'

theorem flat_hB (xs : List Pk) (k : Nat) (x : Pk) (h : xs[k]? = some x) : (xs.take (k + 1)).flatMap hB = (xs.take k).flatMap hB ++ hB x := by
  have hlt := (List.getElem?_eq_some_iff.1 h).1
  have hx := (List.getElem?_eq_some_iff.1 h).2
  rw [List.take_succ_eq_append_getElem hlt, hx]
  simp
theorem psOk_at {xs : List Pk} (h : psOk xs) {k : Nat} {x : Pk} (hx : xs[k]? = some x) : pkOk x := (h.2 k x (List.getElem?_eq_some_iff.1 hx).1 hx).1

set_option maxHeartbeats 2000000 in
set_option maxRecDepth 100000 in
theorem ihm_any (A : Option Addr) (n c : Nat) (xs : List Pk) (w : World) (h : Pks w w.heap.size A n xs) (hn : n ≤ 1099511627776) :
    Calls Tryd.prog 24 #[.slice A n c] w fun e w' => (psOk xs → HmYes n xs w e w') ∧ (¬ psOk xs → HbNo w e w') := by
  have HL := Lib.hid h.len
  obtain ⟨i0, hi0, hz0, hz1, hz2⟩ := info_parts int_info
  have hps := ips_any A n c xs w h hn
  go_enter Tryd.func24, Tryd.ntmps24
  go_wp2_with fail
  refine hps.mono ?_
  rintro e w1 ⟨rfl, hb1⟩
  clear hps
  by_cases hk : psOk xs
  rotate_left
  · rw [show psB xs = false from psB_false.2 hk]
    have HK := Lib.hid hk
    clear hk
    go_wp2
    go_ret2
    exact ⟨fun h => absurd h HK.out, fun _ => ⟨⟨_, _, rfl⟩, (hb1.alloc hb1.size _)⟩⟩
  rw [show psB xs = true from psB_true.2 hk]
  have HK := Lib.hid hk
  have hn20 : n ≤ 20 := by have := hk.1; rw [HL.out] at this; exact this
  replace h := h.below hb1
  have hs1 := hb1.size
  have HNN := Lib.hid (show (8 : Int) * (n : Int) = ((8 * n : Nat) : Int) by omega)
  clear hk
  go_wp2_with (at_make; refine wpList_make_own _ rfl _ _ 22 rfl w.heap.size 3 i0 (.int .i64 0) 1 Tryd.underlying22 hi0 hz0 hz1 .i64 .i64 _ (8 * n) rfl rfl HNN.out (by rw [hz2]; omega) (by unfold maxLen; omega) hs1 ?_; intro w2 hown hgrow)
  have hB2 : Below w.heap.size w w2 := hb1.grown hgrow hs1 (by simp)
  have HO2 := Lib.hid hown
  replace h := h.below ((Below.refl w.heap.size w1).grown hgrow hs1 (by simp))
  clear hown hgrow hb1
  go_loopw [4, 17] (fun v i wr => ∃ (k : Nat) (A' : Option Addr) (c' : Nat), k ≤ n ∧ i = .int .i64 k ∧ v = .slice A' (8 * k) c' ∧ wr.ownsRow w.heap.size 3 1 (.slice A' (8 * k) c') (8 * k) (((xs.take k).flatMap hB).map (Value.int .i64)) ∧ Below w.heap.size w wr ∧ Pks wr w.heap.size A n xs) (fun _ i _ => n - (intOf i).toNat)
  case atStart => exact ⟨0, _, _, by omega, rfl, rfl, by simpa using HO2.out, hB2, h⟩
  case round =>
    clear h hB2 HO2
    obtain ⟨k, A', c', hk, rfl, rfl, hown, hBw, h⟩ := hrel
    have hbs := hBw.size
    by_cases hlt : k < n
    · obtain ⟨b, off, rfl, hbB, hcell⟩ := Pks.addr h (by omega)
      obtain ⟨x, hx⟩ : ∃ x, xs[k]? = some x := ⟨_, List.getElem?_eq_getElem (by rw [HL.out]; exact hlt)⟩
      obtain ⟨c0, c1, c2, c3, c4, c5⟩ := hcell k x hx
      have HX := Lib.hid (psOk_at HK.out hx)
      have HS := Lib.hid (flat_hB xs k x hx)
      have HOW := Lib.hid (show (wr.alloc (.cells #[.int .i64 x.wi, .int .i64 x.ti, .int .i64 x.la, .int .i64 x.si, .bool x.ky, .bool x.en] 24)).ownsRow w.heap.size 3 1 (.slice A' (8 * k) c') (8 * k) (((xs.take k).flatMap hB).map (Value.int .i64)) from hown.alloc _)
      have HH := Lib.hid h
      have hk0 : (0 : Int) ≤ (k : Int) := Int.natCast_nonneg _
      have hk1 : (k : Int) < (n : Int) := by omega
      have e0 : decide (k < n) = true := by simpa using hlt
      clear hcell hx hown h
      go_wp2_with fail
      refine (aph_any w.heap.size (8 * k) c' A' _ x _ HOW.out (by simp; omega) (by omega) HX.out).mono ?_
      rintro e w3 ⟨A3, c3, rfl, hown3, hG3⟩
      have hB4 : Below w.heap.size wr w3 := ((Below.refl _ _).alloc hbs _).trans (hG3.below HOW.out (by simp; omega))
      have hB3 : Below w.heap.size w w3 := hBw.trans hB4
      have HH3 := Lib.hid (HH.out.below hB4)
      have HO3 := Lib.hid (show w3.ownsRow w.heap.size 3 1 (.slice A3 (8 * (k + 1)) c3) (8 * (k + 1)) (((xs.take (k + 1)).flatMap hB).map (Value.int .i64)) by rw [HS.out]; exact hown3)
      clear hown3 hG3 hB4
      go_wp2
      go_roundw
      case rel => exact ⟨k + 1, A3, c3, by omega, by go_num, rfl, HO3.out, hB3, HH3.out⟩
      case measure => simp [intOf]; omega
    · have hkn : k = n := by omega
      subst hkn
      rw [List.take_of_length_le (by rw [HL.out]; exact Nat.le_refl _)] at hown
      have HO := Lib.hid hown
      clear hown h
      go_wp2
      go_ret2
      exact ⟨fun _ => ⟨⟨A', c', rfl, HO.out⟩, hBw⟩, fun h => absurd HK.out h⟩

set_option maxHeartbeats 2000000 in
set_option maxRecDepth 100000 in
theorem shm_any (A : Option Addr) (n c : Nat) (xs : List Pk) (w : World) (h : Pks w w.heap.size A n xs) (hn : n ≤ 1099511627776) :
    Calls Tryd.prog 25 #[.slice A n c] w fun e w' => (psOk xs → HmYes n xs w e w') ∧ (¬ psOk xs → HbNo w e w') := by
  have HL := Lib.hid h.len
  obtain ⟨i0, hi0, hz0, hz1, hz2⟩ := info_parts int_info
  have hB0 : Below w.heap.size w (w.alloc (.cells #[] 3)) := (by repeat (first | exact Below.refl _ _ | assumption | refine Below.setCell ?_ (by first | omega | (simp; done) | (simp; omega)) _ | refine Below.alloc ?_ (by first | omega | (simp; done) | (simp; omega)) _ | refine Below.drew ?_ | refine Below.drewN' ?_ _ | refine Below.trans ?_ (Below.mono (by assumption) (by first | omega | (simp; done) | (simp; omega)))))
  have HE := Lib.hid (own_empty w w.heap.size 3 1 (Nat.le_refl _))
  have hps := sps_any A n c xs (w.alloc (.cells #[] 3)) ((h.below hB0).more hB0.size) hn
  go_enter Tryd.func25, Tryd.ntmps25
  go_wp2_with fail
  refine hps.mono ?_
  rintro e w1 ⟨rfl, hb1⟩
  clear hps
  have hB1 := hB0.trans (hb1.mono hB0.size)
  have HE1 := Lib.hid (own_below HE.out hb1)
  have HH1 := Lib.hid (h.below hB1)
  clear HE h hb1 hB0
  by_cases hk : psOk xs
  rotate_left
  · rw [show psB xs = false from psB_false.2 hk]
    have HK := Lib.hid hk
    clear hk
    go_wp2
    go_ret2
    exact ⟨fun h => absurd h HK.out, fun _ => ⟨⟨_, _, rfl⟩, hB1⟩⟩
  rw [show psB xs = true from psB_true.2 hk]
  have HK := Lib.hid hk
  have hn20 : n ≤ 20 := by have := hk.1; rw [HL.out] at this; exact this
  have hs1 := hB1.size
  clear hk
  go_wp2_with fail
  go_loopw [4, 5] (fun v i wr => ∃ (k : Nat) (A' : Option Addr) (c' : Nat), k ≤ n ∧ i = .int .i64 k ∧ v = .slice A' (8 * k) c' ∧ wr.ownsRow w.heap.size 3 1 (.slice A' (8 * k) c') (8 * k) (((xs.take k).flatMap hB).map (Value.int .i64)) ∧ Below w.heap.size w wr ∧ Pks wr w.heap.size A n xs) (fun _ i _ => n - (intOf i).toNat)
  case atStart => exact ⟨0, _, _, by omega, rfl, rfl, by simpa using HE1.out, hB1, HH1.out⟩
  case round =>
    clear HE1 hB1 HH1
    obtain ⟨k, A', c', hk, rfl, rfl, hown, hBw, h⟩ := hrel
    have hbs := hBw.size
    by_cases hlt : k < n
    · obtain ⟨b, off, rfl, hbB, hcell⟩ := Pks.addr h (by omega)
      obtain ⟨x, hx⟩ : ∃ x, xs[k]? = some x := ⟨_, List.getElem?_eq_getElem (by rw [HL.out]; exact hlt)⟩
      obtain ⟨c0, c1, c2, c3, c4, c5⟩ := hcell k x hx
      have HX := Lib.hid (psOk_at HK.out hx)
      have HS := Lib.hid (flat_hB xs k x hx)
      have HOW := Lib.hid hown
      have HH := Lib.hid h
      have hk0 : (0 : Int) ≤ (k : Int) := Int.natCast_nonneg _
      have hk1 : (k : Int) < (n : Int) := by omega
      have e0 : decide (k < n) = true := by simpa using hlt
      clear hcell hx hown h
      go_wp2_with fail
      refine (l33_any x HX.out _).mono ?_
      rintro e w2 ⟨A2, c2', rfl, hown2, hb2⟩
      have hs2 := hb2.size
      have HOW2 := Lib.hid (own_below HOW.out hb2)
      have HSL := Lib.hid (Sl.of_own hown2)
      have hB2 : Below w.heap.size wr w2 := hb2.mono hbs
      clear hown2 hb2
      go_wp2_with (at_builtin; refine wpList_app _ rfl _ _ 22 rfl w.heap.size 3 i0 (.int .i64 0) 1 8 Tryd.underlying22 hi0 hz0 hz1 hz2 rfl (by omega) _ (8 * k) _ rfl HOW2.out w2.heap.size A2 8 c2' _ rfl HSL.out (one_is _) (by unfold maxLen; omega) (by omega) (by omega) ?_; intro v3 w3 hown3 hgrow hat)
      obtain ⟨A3, c3, rfl, -, -, -⟩ := own_shape hown3
      have hB4 : Below w.heap.size wr w3 := Below.grown_own hB2 hgrow HOW2.out (Nat.le_refl _) (by omega)
      have hB3 : Below w.heap.size w w3 := hBw.trans hB4
      have HH3 := Lib.hid (HH.out.below hB4)
      have HO3 := Lib.hid (show w3.ownsRow w.heap.size 3 1 (.slice A3 (8 * (k + 1)) c3) (8 * (k + 1)) (((xs.take (k + 1)).flatMap hB).map (Value.int .i64)) by rw [HS.out, List.map_append]; exact hown3)
      clear hown3 hgrow hat hB4
      go_wp2
      go_roundw
      case rel => exact ⟨k + 1, A3, c3, by omega, by go_num, rfl, HO3.out, hB3, HH3.out⟩
      case measure => simp [intOf]; omega
    · have hkn : k = n := by omega
      subst hkn
      rw [List.take_of_length_le (by rw [HL.out]; exact Nat.le_refl _)] at hown
      have HO := Lib.hid hown
      clear hown h
      go_wp2
      go_ret2
      exact ⟨fun _ => ⟨⟨A', c', rfl, HO.out⟩, hBw⟩, fun h => absurd HK.out h⟩
end Go.Proofs.YtjpglpglgkopiaaDoor
