/-
  The ring as an array: the walks of put, ring, newRingBuffer.
  Conditions: as each theorem states them.
-/
import Derived.Test.YthbkmnladaneaaaGreatDoorSrB
namespace Go.Proofs.YthbkmnladaneaaaGreatDoor
open Go.RowKit
set_option linter.unusedVariables false
set_option linter.unusedSimpArgs false
set_option maxRecDepth 100000

theorem RBk.dr {T : TypeId} {w : World} {g : Nat} {ps : List Pk} {ro ol co : Int} (h : RBk T w g ps ro ol co) : RBk T w.drew g ps ro ol co := ⟨h.1, h.2.drew⟩
/-- The oldest number behind a put. -/
def olN (r o c : Nat) : Nat := if c - o = r then o + 1 else o


set_option maxHeartbeats 4000000 in
theorem bput_any (g r o c : Nat) (ps : List Pk) (p : Pk) (w : World) (h : RBk 135 w g ps r o c) (hr1 : 1 ≤ r) (hr8 : r ≤ 8) (hoc : o ≤ c) (hc : c ≤ 999999) :
    Calls Tryz.prog 104 #[.pointer (some ⟨g, 0, none⟩), .agg #[.int .i64 p.wi, .int .i64 p.ti, .int .i64 p.la, .int .i64 p.si, .bool p.ky, .bool p.en]] w fun e w' => e = .returned (.tuple #[]) ∧ RBk 135 w' g (ps.set (c % r) p) r (olN r o c) ((c : Int) + 1) ∧ Only g w w' := by
  have hgl := h.lt
  have hX0 := Bk.new w 81 #[.int .i64 p.wi, .int .i64 p.ti, .int .i64 p.la, .int .i64 p.si, .bool p.ky, .bool p.en]
  have hBa : Below w.heap.size w (w.alloc (.cells #[.int .i64 p.wi, .int .i64 p.ti, .int .i64 p.la, .int .i64 p.si, .bool p.ky, .bool p.en] 81)) := (Below.refl _ _).alloc (Nat.le_refl _) _
  have hR := h.below hBa hgl
  have hO0 : Only g w (w.alloc (.cells #[.int .i64 p.wi, .int .i64 p.ti, .int .i64 p.la, .int .i64 p.si, .bool p.ky, .bool p.en] 81)) := Only.of_below hBa
  obtain ⟨k, hk⟩ : ∃ k, c % r = k := ⟨_, rfl⟩
  have hk8 : k < r := by rw [← hk]; exact Nat.mod_lt _ (by omega)
  have hrem : Int.tmod (c : Int) (r : Int) = (k : Int) := by rw [← hk]; exact (Int.ofNat_tmod _ _).symm
  have r0 : ((r : Int) == 0) = false := by simp; omega
  have r1 : (r = 0) = False := by simp; omega
  have f0 : (0 : Int) ≤ k := by omega
  have f1 : (k : Int) < 8 := by omega
  rw [hk]
  clear hk
  obtain ⟨b48, b49, b50⟩ := hR.cells
  have z49 := hR.free 49
  have wr1 : IntKind.i64.wrap ((c : Int) - (o : Int)) = (c : Int) - o := by rw [IntKind.wrap_i64]; omega
  clear h
  by_cases hfull : c - o = r
  · have e0 : (((c : Int) - o) == (r : Int)) = true := by simp; omega
    rw [show ((olN r o c : Nat) : Int) = (o : Int) + 1 by rw [show olN r o c = o + 1 from if_pos hfull]; omega]
    have HR := Lib.hid hR
    clear hR
    go_enter Tryz.func104, Tryz.ntmps104
    go_wp2_with fail
    generalize (w.alloc (.cells #[.int .i64 p.wi, .int .i64 p.ti, .int .i64 p.la, .int .i64 p.si, .bool p.ky, .bool p.en] 81)) = wa at *
    go_quiet (fail)
    have HR2 : RBk 135 ((wa.drewN nq).setCell ⟨g, 49, none⟩ (.int .i64 ((o : Int) + 1))) g ps r ((o : Int) + 1) c := RBk.ol (HR.out.drewN (n := nq))
    have hX := (hX0.drewN nq).far (p := ⟨g, 49, none⟩) (by show w.heap.size ≠ g; omega) (.int .i64 ((o : Int) + 1))
    have hO := ((hO0.drewN nq).setCell (p := ⟨g, 49, none⟩) (.inl rfl) (.int .i64 ((o : Int) + 1)))
    go_wp2_with fail
    clear b48 b49 b50 z49 hX0 hO0 hBa HR
    generalize ((wa.drewN nq).setCell ⟨g, 49, none⟩ (.int .i64 ((o : Int) + 1))) = W at *
    have hXl : w.heap.size < W.heap.size := hX.lt
    obtain ⟨b48, b49, b50⟩ := HR2.cells
    have z50 := HR2.free 50
    have zz0 := HR2.free (k * 6)
    have zz1 := HR2.free (k * 6 + 1)
    have zz2 := HR2.free (k * 6 + 2)
    have zz3 := HR2.free (k * 6 + 3)
    have zz4 := HR2.free (k * 6 + 4)
    have zz5 := HR2.free (k * 6 + 5)
    obtain ⟨x, hx⟩ : ∃ x, ps[k]? = some x := ⟨_, List.getElem?_eq_getElem (by rw [HR2.1]; omega)⟩
    obtain ⟨y0, y1, y2, y3, y4, y5⟩ := HR2.at_ hx
    have HP := Lib.hid (RBk.dr (RBk.co (z := (c : Int) + 1) (RBk.put (x := p) HR2 (k := k) (by omega))))
    have HO := Lib.hid hO
    clear hO
    have hgX : g ≠ w.heap.size := by omega
    (try clear hX_c0); (try clear hX_f0)
    (try clear hX_c1); (try clear hX_f1)
    (try clear hX_c2); (try clear hX_f2)
    (try clear hX_c3); (try clear hX_f3)
    (try clear hX_c4); (try clear hX_f4)
    (try clear hX_c5); (try clear hX_f5)
    (try clear hX_lt)
    have hX_lt := hX.lt; (try simp only [World.size_alloc] at hX_lt)
    have hX_c0 := hX.cell 0; have hX_f0 := hX.frozen 0
    have hX_c1 := hX.cell 1; have hX_f1 := hX.frozen 1
    have hX_c2 := hX.cell 2; have hX_f2 := hX.frozen 2
    have hX_c3 := hX.cell 3; have hX_f3 := hX.frozen 3
    have hX_c4 := hX.cell 4; have hX_f4 := hX.frozen 4
    have hX_c5 := hX.cell 5; have hX_f5 := hX.frozen 5
    simp only [List.getElem?_toArray, List.getElem?_cons_zero, List.getElem?_cons_succ] at hX_c0 hX_c1 hX_c2 hX_c3 hX_c4 hX_c5
    clear HR2 hx
    go_wp2_with fail
    have HO2 := Lib.hid (((((((((HO.out).setCell (p := ⟨g, k * 6, none⟩) (.inl rfl) (.int .i64 p.wi)).setCell (p := ⟨g, k * 6 + 1, none⟩) (.inl rfl) (.int .i64 p.ti)).setCell (p := ⟨g, k * 6 + 2, none⟩) (.inl rfl) (.int .i64 p.la)).setCell (p := ⟨g, k * 6 + 3, none⟩) (.inl rfl) (.int .i64 p.si)).setCell (p := ⟨g, k * 6 + 4, none⟩) (.inl rfl) (.bool p.ky)).setCell (p := ⟨g, k * 6 + 5, none⟩) (.inl rfl) (.bool p.en)).setCell (p := ⟨g, 50, none⟩) (.inl rfl) (.int .i64 ((c : Int) + 1))).drew)
    refine wp_still_tail 14 (by kernel_rfl) (by kernel_rfl) ?_
    simp only [List.take_succ_cons, List.take_zero, List.drop_succ_cons, List.drop_zero]
    repeat still_step
    refine wpStill_nil ?_
    go_wp2
    go_end0
    exact ⟨rfl, (by with_reducible exact HP.out), (by with_reducible exact HO2.out)⟩
  · have e0 : (((c : Int) - o) == (r : Int)) = false := by simp; omega
    rw [show olN r o c = o from if_neg hfull]
    have HR := Lib.hid hR
    clear hR
    go_enter Tryz.func104, Tryz.ntmps104
    go_wp2_with fail
    generalize (w.alloc (.cells #[.int .i64 p.wi, .int .i64 p.ti, .int .i64 p.la, .int .i64 p.si, .bool p.ky, .bool p.en] 81)) = wa at *
    go_quiet (fail)
    have HR2 : RBk 135 (wa.drewN nq) g ps r o c := HR.out.drewN
    have hX := hX0.drewN nq
    have hO := hO0.drewN nq
    go_wp2_with fail
    clear b48 b49 b50 z49 hX0 hO0 hBa HR
    generalize wa.drewN nq = W at *
    have hXl : w.heap.size < W.heap.size := hX.lt
    obtain ⟨b48, b49, b50⟩ := HR2.cells
    have z50 := HR2.free 50
    have zz0 := HR2.free (k * 6)
    have zz1 := HR2.free (k * 6 + 1)
    have zz2 := HR2.free (k * 6 + 2)
    have zz3 := HR2.free (k * 6 + 3)
    have zz4 := HR2.free (k * 6 + 4)
    have zz5 := HR2.free (k * 6 + 5)
    obtain ⟨x, hx⟩ : ∃ x, ps[k]? = some x := ⟨_, List.getElem?_eq_getElem (by rw [HR2.1]; omega)⟩
    obtain ⟨y0, y1, y2, y3, y4, y5⟩ := HR2.at_ hx
    have HP := Lib.hid (RBk.dr (RBk.co (z := (c : Int) + 1) (RBk.put (x := p) HR2 (k := k) (by omega))))
    have HO := Lib.hid hO
    clear hO
    have hgX : g ≠ w.heap.size := by omega
    (try clear hX_c0); (try clear hX_f0)
    (try clear hX_c1); (try clear hX_f1)
    (try clear hX_c2); (try clear hX_f2)
    (try clear hX_c3); (try clear hX_f3)
    (try clear hX_c4); (try clear hX_f4)
    (try clear hX_c5); (try clear hX_f5)
    (try clear hX_lt)
    have hX_lt := hX.lt; (try simp only [World.size_alloc] at hX_lt)
    have hX_c0 := hX.cell 0; have hX_f0 := hX.frozen 0
    have hX_c1 := hX.cell 1; have hX_f1 := hX.frozen 1
    have hX_c2 := hX.cell 2; have hX_f2 := hX.frozen 2
    have hX_c3 := hX.cell 3; have hX_f3 := hX.frozen 3
    have hX_c4 := hX.cell 4; have hX_f4 := hX.frozen 4
    have hX_c5 := hX.cell 5; have hX_f5 := hX.frozen 5
    simp only [List.getElem?_toArray, List.getElem?_cons_zero, List.getElem?_cons_succ] at hX_c0 hX_c1 hX_c2 hX_c3 hX_c4 hX_c5
    clear HR2 hx
    go_wp2_with fail
    have HO2 := Lib.hid (((((((((HO.out).setCell (p := ⟨g, k * 6, none⟩) (.inl rfl) (.int .i64 p.wi)).setCell (p := ⟨g, k * 6 + 1, none⟩) (.inl rfl) (.int .i64 p.ti)).setCell (p := ⟨g, k * 6 + 2, none⟩) (.inl rfl) (.int .i64 p.la)).setCell (p := ⟨g, k * 6 + 3, none⟩) (.inl rfl) (.int .i64 p.si)).setCell (p := ⟨g, k * 6 + 4, none⟩) (.inl rfl) (.bool p.ky)).setCell (p := ⟨g, k * 6 + 5, none⟩) (.inl rfl) (.bool p.en)).setCell (p := ⟨g, 50, none⟩) (.inl rfl) (.int .i64 ((c : Int) + 1))).drew)
    refine wp_still_tail 14 (by kernel_rfl) (by kernel_rfl) ?_
    simp only [List.take_succ_cons, List.take_zero, List.drop_succ_cons, List.drop_zero]
    repeat still_step
    refine wpStill_nil ?_
    go_wp2
    go_end0
    exact ⟨rfl, (by with_reducible exact HP.out), (by with_reducible exact HO2.out)⟩

end Go.Proofs.YthbkmnladaneaaaGreatDoor
