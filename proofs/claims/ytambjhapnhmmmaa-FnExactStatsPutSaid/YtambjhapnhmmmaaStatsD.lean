/-
  StatsPut of the program.
  Conditions: as each theorem states them.
-/
import Derived.Test.YtambjhapnhmmmaaRows
import Derived.Test.YtambjhapnhmmmaaLib
import Derived.Test.YtambjhapnhmmmaaDraw
import Derived.Test.YtambjhapnhmmmaaStats
import Derived.Test.YtambjhapnhmmmaaStatsB
import Derived.Test.YtambjhapnhmmmaaStatsC
namespace Go.Proofs.Ytambjhapnhmmmaa
open Go.RowKit
set_option linter.unusedVariables false
set_option linter.unusedSimpArgs false

set_option maxHeartbeats 8000000 in
theorem iput_in0 (a b c d e wd t cm : Int) (w : World) (h : PutIn a b c d e wd t cm) (hs : cm - t - e < 0) (r : Bool) (hr : stB a (max b wd) (c + 1) (putD d e t cm) (cm - t) = r) :
    Calls Try.prog 20 #[.agg #[.int .i64 a, .int .i64 b, .int .i64 c, .int .i64 d, .int .i64 e], .int .i64 wd, .int .i64 t, .int .i64 cm] w fun x w' => (if r then putGood a b c d e wd t cm w x w' else putBad w x w') := by
  obtain ⟨h1, h2, h3⟩ := h
  obtain ⟨a1, a2, a3, a4, a5, a6, a7, a8, a9, a10, a11⟩ := id h1
  obtain ⟨b1, b2, b3, b4, b5, b6⟩ := id h2
  have q1 : stB a b c d e = true := decide_eq_true h1
  have q2 : wtB wd t cm = true := decide_eq_true h2
  have q3 : decide (wd < a) = false := by simp; omega
  have q4 : decide (cm - t - e < 0) = true := by simp; omega
  have hv := fun w => istv_any a b c d e w
  have hl := fun w => newArr_any wd t cm w
  rw [q1] at hv
  rw [q2] at hl
  have HP : Hid (d + -(cm - t - e) - (d + 8) / 16 = putD d e t cm) := by show _ = _; unfold putD absI; split <;> omega
  have hv2 := fun w => istv_any a (max b wd) (c + 1) (putD d e t cm) (cm - t) w
  rw [hr, ← HP.out] at hv2
  have HV2 := Lib.hid hv2
  clear h1 h2 q1 q2 hr hv2
  have hmx := fun (w : World) (ts : Array TypeId) (t : TypeId) (x y : Int) => run_max_plain (P := Try.prog) w ts t x y
  have hS := (Bk.new w 31 #[.int .i64 a, .int .i64 b, .int .i64 c, .int .i64 d, .int .i64 e]).alloc (.cells #[.int .i64 0, .int .i64 0, .int .i64 0, .int .i64 0, .int .i64 0] 31)
  have hR := Bk.new (w.alloc (.cells #[.int .i64 a, .int .i64 b, .int .i64 c, .int .i64 d, .int .i64 e] 31)) 31 #[.int .i64 0, .int .i64 0, .int .i64 0, .int .i64 0, .int .i64 0]
  rw [World.size_alloc] at hR
  go_enter Try.func20, Try.ntmps20
  go_wp2_with fail
  refine (hl _).mono ?_
  rintro x w1 ⟨rfl, hb1⟩
  have hB1 : Below w.heap.size w w1 := (by repeat (first | exact Below.refl _ _ | assumption | refine Below.setCell ?_ (by first | omega | (simp; done) | (simp; omega)) _ | refine Below.alloc ?_ (by first | omega | (simp; done) | (simp; omega)) _ | refine Below.drew ?_ | refine Below.drewN' ?_ _ | refine Below.trans ?_ (Below.mono (by assumption) (by first | omega | (simp; done) | (simp; omega)))))
  have s1 := hB1.size
  replace hS := hS.below hb1 (by first | omega | (simp; done) | (simp; omega))
  (try clear hS_c0); (try clear hS_f0)
  (try clear hS_c1); (try clear hS_f1)
  (try clear hS_c2); (try clear hS_f2)
  (try clear hS_c3); (try clear hS_f3)
  (try clear hS_c4); (try clear hS_f4)
  (try clear hS_lt)
  have hS_lt := hS.lt; (try simp only [World.size_alloc] at hS_lt)
  have hS_c0 := hS.cell 0; have hS_f0 := hS.frozen 0
  have hS_c1 := hS.cell 1; have hS_f1 := hS.frozen 1
  have hS_c2 := hS.cell 2; have hS_f2 := hS.frozen 2
  have hS_c3 := hS.cell 3; have hS_f3 := hS.frozen 3
  have hS_c4 := hS.cell 4; have hS_f4 := hS.frozen 4
  simp only [List.getElem?_toArray, List.getElem?_cons_zero, List.getElem?_cons_succ] at hS_c0 hS_c1 hS_c2 hS_c3 hS_c4
  replace hR := hR.below hb1 (by first | omega | (simp; done) | (simp; omega))
  (try clear hR_c0); (try clear hR_f0)
  (try clear hR_c1); (try clear hR_f1)
  (try clear hR_c2); (try clear hR_f2)
  (try clear hR_c3); (try clear hR_f3)
  (try clear hR_c4); (try clear hR_f4)
  (try clear hR_lt)
  have hR_lt := hR.lt; (try simp only [World.size_alloc] at hR_lt)
  have hR_c0 := hR.cell 0; have hR_f0 := hR.frozen 0
  have hR_c1 := hR.cell 1; have hR_f1 := hR.frozen 1
  have hR_c2 := hR.cell 2; have hR_f2 := hR.frozen 2
  have hR_c3 := hR.cell 3; have hR_f3 := hR.frozen 3
  have hR_c4 := hR.cell 4; have hR_f4 := hR.frozen 4
  simp only [List.getElem?_toArray, List.getElem?_cons_zero, List.getElem?_cons_succ] at hR_c0 hR_c1 hR_c2 hR_c3 hR_c4
  go_wp2_with fail
  refine (hv _).mono ?_
  rintro x w2 ⟨rfl, hb2⟩
  have hB2 : Below w.heap.size w w2 := (by repeat (first | exact Below.refl _ _ | assumption | refine Below.setCell ?_ (by first | omega | (simp; done) | (simp; omega)) _ | refine Below.alloc ?_ (by first | omega | (simp; done) | (simp; omega)) _ | refine Below.drew ?_ | refine Below.drewN' ?_ _ | refine Below.trans ?_ (Below.mono (by assumption) (by first | omega | (simp; done) | (simp; omega)))))
  have s2 := hB2.size
  have hN := (Bk.new w1 66 #[.int .i64 t, .int .i64 cm, .int .i64 wd]).below hb2 (by simp)
  replace hS := hS.alloc (.cells #[.int .i64 t, .int .i64 cm, .int .i64 wd] 66)
  replace hR := hR.alloc (.cells #[.int .i64 t, .int .i64 cm, .int .i64 wd] 66)
  replace hS := hS.below hb2 (by first | omega | (simp; done) | (simp; omega))
  (try clear hS_c0); (try clear hS_f0)
  (try clear hS_c1); (try clear hS_f1)
  (try clear hS_c2); (try clear hS_f2)
  (try clear hS_c3); (try clear hS_f3)
  (try clear hS_c4); (try clear hS_f4)
  (try clear hS_lt)
  have hS_lt := hS.lt; (try simp only [World.size_alloc] at hS_lt)
  have hS_c0 := hS.cell 0; have hS_f0 := hS.frozen 0
  have hS_c1 := hS.cell 1; have hS_f1 := hS.frozen 1
  have hS_c2 := hS.cell 2; have hS_f2 := hS.frozen 2
  have hS_c3 := hS.cell 3; have hS_f3 := hS.frozen 3
  have hS_c4 := hS.cell 4; have hS_f4 := hS.frozen 4
  simp only [List.getElem?_toArray, List.getElem?_cons_zero, List.getElem?_cons_succ] at hS_c0 hS_c1 hS_c2 hS_c3 hS_c4
  replace hR := hR.below hb2 (by first | omega | (simp; done) | (simp; omega))
  (try clear hR_c0); (try clear hR_f0)
  (try clear hR_c1); (try clear hR_f1)
  (try clear hR_c2); (try clear hR_f2)
  (try clear hR_c3); (try clear hR_f3)
  (try clear hR_c4); (try clear hR_f4)
  (try clear hR_lt)
  have hR_lt := hR.lt; (try simp only [World.size_alloc] at hR_lt)
  have hR_c0 := hR.cell 0; have hR_f0 := hR.frozen 0
  have hR_c1 := hR.cell 1; have hR_f1 := hR.frozen 1
  have hR_c2 := hR.cell 2; have hR_f2 := hR.frozen 2
  have hR_c3 := hR.cell 3; have hR_f3 := hR.frozen 3
  have hR_c4 := hR.cell 4; have hR_f4 := hR.frozen 4
  simp only [List.getElem?_toArray, List.getElem?_cons_zero, List.getElem?_cons_succ] at hR_c0 hR_c1 hR_c2 hR_c3 hR_c4
  (try clear hN_c0); (try clear hN_f0)
  (try clear hN_c1); (try clear hN_f1)
  (try clear hN_c2); (try clear hN_f2)
  (try clear hN_lt)
  have hN_lt := hN.lt; (try simp only [World.size_alloc] at hN_lt)
  have hN_c0 := hN.cell 0; have hN_f0 := hN.frozen 0
  have hN_c1 := hN.cell 1; have hN_f1 := hN.frozen 1
  have hN_c2 := hN.cell 2; have hN_f2 := hN.frozen 2
  simp only [List.getElem?_toArray, List.getElem?_cons_zero, List.getElem?_cons_succ] at hN_c0 hN_c1 hN_c2
  have s12 : w1.heap.size < w2.heap.size := by have := hb2.size; simp only [World.size_alloc] at this; omega
  clear hb1 hb2 hB1
  go_wp2_with fail
  refine wp_region_cells [(w1.heap.size, 0, .int .i64 t), (w1.heap.size, 1, .int .i64 cm), (w.heap.size, 4, .int .i64 e)] (by kernel_rfl) (by kernel_rfl) ?_ ?_
  · simp only [List.forall_mem_cons]
    exact ⟨by go_simp, by go_simp, by go_simp, by simp⟩
  intro hcs
  simp only [List.forall_mem_cons] at hcs
  obtain ⟨dc0, dc1, dc2, -⟩ := hcs
  repeat (any_goals (first | go_big_quiet_step (first | (go_at_call 49; exact BW.calls (Nat.le_refl _) _ (itrip_below _ _ _ (by omega) (by omega)))) | quiet_step (first | (go_at_call 49; exact BW.calls (Nat.le_refl _) _ (itrip_below _ _ _ (by omega) (by omega))))))
  refine wpQuiet_nil ?_
  intro _ hw'
  obtain ⟨xw, hw''⟩ := hw'
  subst hw''
  have hbw := xw.2
  clear dc0 dc1 dc2
  generalize xw.1 = ww at hbw ⊢
  clear xw
  obtain ⟨kw, fw⟩ := bcell hbw
  have sw := hbw.size
  replace hS := hS.below hbw (by first | omega | (simp; done) | (simp; omega))
  (try clear hS_c0); (try clear hS_f0)
  (try clear hS_c1); (try clear hS_f1)
  (try clear hS_c2); (try clear hS_f2)
  (try clear hS_c3); (try clear hS_f3)
  (try clear hS_c4); (try clear hS_f4)
  (try clear hS_lt)
  have hS_lt := hS.lt; (try simp only [World.size_alloc] at hS_lt)
  have hS_c0 := hS.cell 0; have hS_f0 := hS.frozen 0
  have hS_c1 := hS.cell 1; have hS_f1 := hS.frozen 1
  have hS_c2 := hS.cell 2; have hS_f2 := hS.frozen 2
  have hS_c3 := hS.cell 3; have hS_f3 := hS.frozen 3
  have hS_c4 := hS.cell 4; have hS_f4 := hS.frozen 4
  simp only [List.getElem?_toArray, List.getElem?_cons_zero, List.getElem?_cons_succ] at hS_c0 hS_c1 hS_c2 hS_c3 hS_c4
  replace hR := hR.below hbw (by first | omega | (simp; done) | (simp; omega))
  (try clear hR_c0); (try clear hR_f0)
  (try clear hR_c1); (try clear hR_f1)
  (try clear hR_c2); (try clear hR_f2)
  (try clear hR_c3); (try clear hR_f3)
  (try clear hR_c4); (try clear hR_f4)
  (try clear hR_lt)
  have hR_lt := hR.lt; (try simp only [World.size_alloc] at hR_lt)
  have hR_c0 := hR.cell 0; have hR_f0 := hR.frozen 0
  have hR_c1 := hR.cell 1; have hR_f1 := hR.frozen 1
  have hR_c2 := hR.cell 2; have hR_f2 := hR.frozen 2
  have hR_c3 := hR.cell 3; have hR_f3 := hR.frozen 3
  have hR_c4 := hR.cell 4; have hR_f4 := hR.frozen 4
  simp only [List.getElem?_toArray, List.getElem?_cons_zero, List.getElem?_cons_succ] at hR_c0 hR_c1 hR_c2 hR_c3 hR_c4
  replace hN := hN.below hbw (by first | omega | (simp; done) | (simp; omega))
  (try clear hN_c0); (try clear hN_f0)
  (try clear hN_c1); (try clear hN_f1)
  (try clear hN_c2); (try clear hN_f2)
  (try clear hN_lt)
  have hN_lt := hN.lt; (try simp only [World.size_alloc] at hN_lt)
  have hN_c0 := hN.cell 0; have hN_f0 := hN.frozen 0
  have hN_c1 := hN.cell 1; have hN_f1 := hN.frozen 1
  have hN_c2 := hN.cell 2; have hN_f2 := hN.frozen 2
  simp only [List.getElem?_toArray, List.getElem?_cons_zero, List.getElem?_cons_succ] at hN_c0 hN_c1 hN_c2
  have hB3 : Below w.heap.size w ww := (by repeat (first | exact Below.refl _ _ | assumption | refine Below.setCell ?_ (by first | omega | (simp; done) | (simp; omega)) _ | refine Below.alloc ?_ (by first | omega | (simp; done) | (simp; omega)) _ | refine Below.drew ?_ | refine Below.drewN' ?_ _ | refine Below.trans ?_ (Below.mono (by assumption) (by first | omega | (simp; done) | (simp; omega)))))
  have s3 : w2.heap.size ≤ ww.heap.size := sw
  clear kw fw hbw hB2
  go_wp2_with fail
  refine wp_region_held_drew (S := fun w' => w'.cell? ⟨w.heap.size, 0, none⟩ = some (.int .i64 a) ∧ w'.cell? ⟨w.heap.size, 1, none⟩ = some (.int .i64 b) ∧ w'.cell? ⟨w.heap.size, 2, none⟩ = some (.int .i64 c) ∧ w'.cell? ⟨w.heap.size, 3, none⟩ = some (.int .i64 d) ∧ w'.cell? ⟨w1.heap.size, 0, none⟩ = some (.int .i64 t) ∧ w'.cell? ⟨w1.heap.size, 1, none⟩ = some (.int .i64 cm) ∧ w'.cell? ⟨w1.heap.size, 2, none⟩ = some (.int .i64 wd)) (by kernel_rfl) ?_ (fun hHeld => ?_)
  · exact ⟨hS_c0, hS_c1, hS_c2, hS_c3, hN_c0, hN_c1, hN_c2⟩
  refine wpAnyH_take (i := 0) (v := ?_) rfl (by kernel_rfl) (by kernel_rfl) (by kernel_rfl) (fun _ _ _ h => h) (Or.inl ⟨by rfl, ?_⟩) (by assumption) ?_
  rotate_left
  · (intro w hSw; (try dsimp only at hSw); go_simp; try with_reducible rfl)
  refine wpAnyH_take (i := 1) (v := ?_) rfl (by kernel_rfl) (by kernel_rfl) (by kernel_rfl) (fun _ _ _ h => h) (Or.inl ⟨by rfl, ?_⟩) (by assumption) ?_
  rotate_left
  · (intro w hSw; (try dsimp only at hSw); go_simp; try with_reducible rfl)
  refine wpAnyH_take (i := 2) (v := ?_) rfl (by kernel_rfl) (by kernel_rfl) (by kernel_rfl) (fun _ _ _ h => h) (Or.inl ⟨by rfl, ?_⟩) (by assumption) ?_
  rotate_left
  · (intro w hSw; (try dsimp only at hSw); go_simp; try with_reducible rfl)
  refine wpAnyH_take (i := 3) (v := ?_) rfl (by kernel_rfl) (by kernel_rfl) (by kernel_rfl) (fun _ _ _ h => h) (Or.inl ⟨by rfl, ?_⟩) (by assumption) ?_
  rotate_left
  · (intro w hSw; (try dsimp only at hSw); go_simp; try with_reducible rfl)
  refine wpAnyH_take (i := 4) (v := ?_) rfl (by kernel_rfl) (by kernel_rfl) (by kernel_rfl) (fun _ _ _ h => h) (Or.inl ⟨by rfl, ?_⟩) (by assumption) ?_
  rotate_left
  · (intro w hSw; (try dsimp only at hSw); go_simp; try with_reducible rfl)
  refine wpAnyH_take (i := 5) (v := ?_) rfl (by kernel_rfl) (by kernel_rfl) (by kernel_rfl) (fun _ _ _ h => h) (Or.inl ⟨by rfl, ?_⟩) (by assumption) ?_
  rotate_left
  · (intro w hSw; (try dsimp only at hSw); go_simp; try with_reducible rfl)
  refine wpAnyH_take (i := 6) (v := ?_) rfl (by kernel_rfl) (by kernel_rfl) (by kernel_rfl) (fun _ _ _ h => h) (Or.inl ⟨by rfl, ?_⟩) (by assumption) ?_
  rotate_left
  · (intro w hSw; (try dsimp only at hSw); go_simp; try with_reducible rfl)
  refine wpAnyH_take (i := 7) (v := ?_) rfl (by kernel_rfl) (by kernel_rfl) (by kernel_rfl) (fun _ _ _ h => h) (Or.inl ⟨by rfl, ?_⟩) (by assumption) ?_
  rotate_left
  · (intro w hSw; (try dsimp only at hSw); go_simp; try with_reducible rfl)
  refine wpAnyH_take (i := 8) (v := ?_) rfl (by kernel_rfl) (by kernel_rfl) (by kernel_rfl) (fun _ _ _ h => h) (Or.inl ⟨by rfl, ?_⟩) (by assumption) ?_
  rotate_left
  · (intro w hSw; (try dsimp only at hSw); go_simp; try with_reducible rfl)
  refine wpAnyH_take (i := 9) (v := ?_) rfl (by kernel_rfl) (by kernel_rfl) (by kernel_rfl) (fun _ _ _ h => h) (Or.inl ⟨by rfl, ?_⟩) (by assumption) ?_
  rotate_left
  · (intro w hSw; (try dsimp only at hSw); go_simp; try with_reducible rfl)
  refine wpAnyH_take (i := 10) (v := ?_) rfl (by kernel_rfl) (by kernel_rfl) (by kernel_rfl) (fun _ _ _ h => h) (Or.inl ⟨by rfl, ?_⟩) (by assumption) ?_
  rotate_left
  · (intro w hSw; (try dsimp only at hSw); go_simp; try with_reducible rfl)
  refine wpAnyH_take (i := 11) (v := ?_) rfl (by kernel_rfl) (by kernel_rfl) (by kernel_rfl) (fun _ _ _ h => h) (Or.inl ⟨by rfl, ?_⟩) (by assumption) ?_
  rotate_left
  · (intro w hSw; (try dsimp only at hSw); go_simp; try with_reducible rfl)
  refine wpAnyH_take (i := 12) (v := ?_) rfl (by kernel_rfl) (by kernel_rfl) (by kernel_rfl) (fun _ _ _ h => h) (Or.inl ⟨by rfl, ?_⟩) (by assumption) ?_
  rotate_left
  · (intro w hSw; (try dsimp only at hSw); go_simp; try with_reducible rfl)
  refine wpAnyH_take (i := 13) (v := ?_) rfl (by kernel_rfl) (by kernel_rfl) (by kernel_rfl) (fun _ _ _ h => h) (Or.inl ⟨by rfl, ?_⟩) (by assumption) ?_
  rotate_left
  · (intro w hSw; (try dsimp only at hSw); go_simp; try with_reducible rfl)
  refine wpAnyH_take (i := 14) (v := ?_) rfl (by kernel_rfl) (by kernel_rfl) (by kernel_rfl) (fun _ _ _ h => h) (Or.inl ⟨by rfl, ?_⟩) (by assumption) ?_
  rotate_left
  · (intro w hSw; (try dsimp only at hSw); go_simp; try with_reducible rfl)
  refine wpAnyH_take (i := 15) (v := ?_) rfl (by kernel_rfl) (by kernel_rfl) (by kernel_rfl) (fun _ _ _ h => h) (Or.inl ⟨by rfl, ?_⟩) (by assumption) ?_
  rotate_left
  · (intro w hSw; (try dsimp only at hSw); go_simp; try with_reducible rfl)
  refine wpAnyH_take (i := 16) (v := ?_) rfl (by kernel_rfl) (by kernel_rfl) (by kernel_rfl) (fun _ _ _ h => h) (Or.inl ⟨by rfl, ?_⟩) (by assumption) ?_
  rotate_left
  · (intro w hSw; (try dsimp only at hSw); go_simp; try with_reducible rfl)
  refine wpAnyH_take (i := 17) (v := ?_) rfl (by kernel_rfl) (by kernel_rfl) (by kernel_rfl) (fun _ _ _ h => h) (Or.inl ⟨by rfl, ?_⟩) (by assumption) ?_
  rotate_left
  · (intro w hSw; (try dsimp only at hSw); go_simp; try with_reducible rfl)
  refine wpAnyH_take (i := 18) (v := ?_) rfl (by kernel_rfl) (by kernel_rfl) (by kernel_rfl) (fun _ _ _ h => h) (Or.inl ⟨by rfl, ?_⟩) (by assumption) ?_
  rotate_left
  · (intro w hSw; (try dsimp only at hSw); go_simp; try with_reducible rfl)
  refine wpAnyH_take (i := 19) (v := ?_) rfl (by kernel_rfl) (by kernel_rfl) (by kernel_rfl) (fun _ _ _ h => h) (Or.inl ⟨by rfl, ?_⟩) (by assumption) ?_
  rotate_left
  · (intro w hSw; (try dsimp only at hSw); go_simp; try with_reducible rfl)
  refine wpAnyH_take (i := 20) (v := ?_) rfl (by kernel_rfl) (by kernel_rfl) (by kernel_rfl) (fun _ _ _ h => h) (Or.inl ⟨by rfl, ?_⟩) (by assumption) ?_
  rotate_left
  · (intro w hSw; (try dsimp only at hSw); go_simp; try with_reducible rfl)
  refine wpAnyH_ready (rs := [21, 23]) (by kernel_rfl) (by simp) ?_
  refine AllReadyH.cons rfl (fun K hK => ?_) (AllReadyH.cons rfl (fun K hK => ?_) AllReadyH.nil) <;> go_simp
  · refine (itrip_any _ _ _ (by omega) (by omega)).mono ?_
    rintro x w4 ⟨rfl, rfl⟩
    go_wp2_with fail
    refine hK.out _ _ ?_ (fun hHeld => ?_)
    · (try dsimp only)
      go_keep
    clear hK K
    refine wpAnyH_take (i := 22) (v := ?_) rfl (by kernel_rfl) (by kernel_rfl) (by kernel_rfl) (fun _ _ _ h => h) (Or.inl ⟨by rfl, ?_⟩) (by assumption) ?_
    rotate_left
    · (intro w hSw; (try dsimp only at hSw); go_simp; try with_reducible rfl)
    refine wpAnyH_ready (rs := [23]) (by kernel_rfl) (by simp) ?_
    refine AllReadyH.cons rfl (fun K hK => ?_) AllReadyH.nil
    go_simp
    refine hK.out _ _ ?_ (fun hHeld => ?_)
    · (try dsimp only)
      go_keep
    clear hK K
    refine wpAnyH_ready (rs := [24]) (by kernel_rfl) (by simp) ?_
    refine AllReadyH.cons rfl (fun K hK => ?_) AllReadyH.nil
    go_simp
    refine hK.out _ _ ?_ (fun hHeld => ?_)
    · (try dsimp only)
      go_keep
    clear hK K
    refine wpAnyH_done (by kernel_rfl) ?_ _
    go_wp2_with fail
    refine (HV2.out _).mono ?_
    rintro x w6 ⟨rfl, hb6⟩
    have hR6 : Bk w6 (w.heap.size + 1) 31 #[.int .i64 0, .int .i64 0, .int .i64 0, .int .i64 0, .int .i64 0] := Bk.below (by repeat (first | exact hR | refine Bk.alloc ?_ _ | refine Bk.drew ?_)) hb6 (by simp; omega)
    have hB6 : Below w.heap.size w w6 := (by repeat (first | exact Below.refl _ _ | assumption | refine Below.setCell ?_ (by first | omega | (simp; done) | (simp; omega)) _ | refine Below.alloc ?_ (by first | omega | (simp; done) | (simp; omega)) _ | refine Below.drew ?_ | refine Below.drewN' ?_ _ | refine Below.trans ?_ (Below.mono (by assumption) (by first | omega | (simp; done) | (simp; omega)))))
    obtain ⟨k6, f6⟩ := bcell hb6
    (try simp only [World.size_alloc] at k6 f6)
    (try clear hR6_c0); (try clear hR6_f0)
    (try clear hR6_c1); (try clear hR6_f1)
    (try clear hR6_c2); (try clear hR6_f2)
    (try clear hR6_c3); (try clear hR6_f3)
    (try clear hR6_c4); (try clear hR6_f4)
    (try clear hR6_lt)
    have hR6_lt := hR6.lt; (try simp only [World.size_alloc] at hR6_lt)
    have hR6_c0 := hR6.cell 0; have hR6_f0 := hR6.frozen 0
    have hR6_c1 := hR6.cell 1; have hR6_f1 := hR6.frozen 1
    have hR6_c2 := hR6.cell 2; have hR6_f2 := hR6.frozen 2
    have hR6_c3 := hR6.cell 3; have hR6_f3 := hR6.frozen 3
    have hR6_c4 := hR6.cell 4; have hR6_f4 := hR6.frozen 4
    simp only [List.getElem?_toArray, List.getElem?_cons_zero, List.getElem?_cons_succ] at hR6_c0 hR6_c1 hR6_c2 hR6_c3 hR6_c4
    go_wp2
    · exfalso
      cases r <;> contradiction
    · skip
      refine ⟨rfl, ?_⟩
      apply Exists.intro
      apply And.intro
      · simp [results, Try.results20, go_sem, hR6_c0, hR6_c1, hR6_c2, hR6_c3, hR6_c4, hR6_lt]; exact rfl
      · exact ⟨rfl, (by repeat (first | exact Below.refl _ _ | assumption | refine Below.setCell ?_ (by first | omega | (simp; done) | (simp; omega)) _ | refine Below.alloc ?_ (by first | omega | (simp; done) | (simp; omega)) _ | refine Below.drew ?_ | refine Below.drewN' ?_ _ | refine Below.trans ?_ (Below.mono (by assumption) (by first | omega | (simp; done) | (simp; omega)))))⟩
    · skip
      refine ⟨rfl, ?_⟩
      apply Exists.intro
      apply And.intro
      · simp [results, Try.results20, go_sem, hR6_c0, hR6_c1, hR6_c2, hR6_c3, hR6_c4, hR6_lt]; exact rfl
      · exact ⟨by rw [HP.out], (by repeat (first | exact Below.refl _ _ | assumption | refine Below.setCell ?_ (by first | omega | (simp; done) | (simp; omega)) _ | refine Below.alloc ?_ (by first | omega | (simp; done) | (simp; omega)) _ | refine Below.drew ?_ | refine Below.drewN' ?_ _ | refine Below.trans ?_ (Below.mono (by assumption) (by first | omega | (simp; done) | (simp; omega)))))⟩
    · exfalso
      cases r <;> contradiction
  · skip
    refine hK.out _ _ ?_ (fun hHeld => ?_)
    · (try dsimp only)
      go_keep
    clear hK K
    refine wpAnyH_ready (rs := [21]) (by kernel_rfl) (by simp) ?_
    refine AllReadyH.cons rfl (fun K hK => ?_) AllReadyH.nil
    go_simp
    refine (itrip_any _ _ _ (by omega) (by omega)).mono ?_
    rintro x w4 ⟨rfl, rfl⟩
    go_wp2_with fail
    refine hK.out _ _ ?_ (fun hHeld => ?_)
    · (try dsimp only)
      go_keep
    clear hK K
    refine wpAnyH_take (i := 22) (v := ?_) rfl (by kernel_rfl) (by kernel_rfl) (by kernel_rfl) (fun _ _ _ h => h) (Or.inl ⟨by rfl, ?_⟩) (by assumption) ?_
    rotate_left
    · (intro w hSw; (try dsimp only at hSw); go_simp; try with_reducible rfl)
    refine wpAnyH_ready (rs := [24]) (by kernel_rfl) (by simp) ?_
    refine AllReadyH.cons rfl (fun K hK => ?_) AllReadyH.nil
    go_simp
    refine hK.out _ _ ?_ (fun hHeld => ?_)
    · (try dsimp only)
      go_keep
    clear hK K
    refine wpAnyH_done (by kernel_rfl) ?_ _
    go_wp2_with fail
    refine (HV2.out _).mono ?_
    rintro x w6 ⟨rfl, hb6⟩
    have hR6 : Bk w6 (w.heap.size + 1) 31 #[.int .i64 0, .int .i64 0, .int .i64 0, .int .i64 0, .int .i64 0] := Bk.below (by repeat (first | exact hR | refine Bk.alloc ?_ _ | refine Bk.drew ?_)) hb6 (by simp; omega)
    have hB6 : Below w.heap.size w w6 := (by repeat (first | exact Below.refl _ _ | assumption | refine Below.setCell ?_ (by first | omega | (simp; done) | (simp; omega)) _ | refine Below.alloc ?_ (by first | omega | (simp; done) | (simp; omega)) _ | refine Below.drew ?_ | refine Below.drewN' ?_ _ | refine Below.trans ?_ (Below.mono (by assumption) (by first | omega | (simp; done) | (simp; omega)))))
    obtain ⟨k6, f6⟩ := bcell hb6
    (try simp only [World.size_alloc] at k6 f6)
    (try clear hR6_c0); (try clear hR6_f0)
    (try clear hR6_c1); (try clear hR6_f1)
    (try clear hR6_c2); (try clear hR6_f2)
    (try clear hR6_c3); (try clear hR6_f3)
    (try clear hR6_c4); (try clear hR6_f4)
    (try clear hR6_lt)
    have hR6_lt := hR6.lt; (try simp only [World.size_alloc] at hR6_lt)
    have hR6_c0 := hR6.cell 0; have hR6_f0 := hR6.frozen 0
    have hR6_c1 := hR6.cell 1; have hR6_f1 := hR6.frozen 1
    have hR6_c2 := hR6.cell 2; have hR6_f2 := hR6.frozen 2
    have hR6_c3 := hR6.cell 3; have hR6_f3 := hR6.frozen 3
    have hR6_c4 := hR6.cell 4; have hR6_f4 := hR6.frozen 4
    simp only [List.getElem?_toArray, List.getElem?_cons_zero, List.getElem?_cons_succ] at hR6_c0 hR6_c1 hR6_c2 hR6_c3 hR6_c4
    go_wp2
    · exfalso
      cases r <;> contradiction
    · skip
      refine ⟨rfl, ?_⟩
      apply Exists.intro
      apply And.intro
      · simp [results, Try.results20, go_sem, hR6_c0, hR6_c1, hR6_c2, hR6_c3, hR6_c4, hR6_lt]; exact rfl
      · exact ⟨rfl, (by repeat (first | exact Below.refl _ _ | assumption | refine Below.setCell ?_ (by first | omega | (simp; done) | (simp; omega)) _ | refine Below.alloc ?_ (by first | omega | (simp; done) | (simp; omega)) _ | refine Below.drew ?_ | refine Below.drewN' ?_ _ | refine Below.trans ?_ (Below.mono (by assumption) (by first | omega | (simp; done) | (simp; omega)))))⟩
    · skip
      refine ⟨rfl, ?_⟩
      apply Exists.intro
      apply And.intro
      · simp [results, Try.results20, go_sem, hR6_c0, hR6_c1, hR6_c2, hR6_c3, hR6_c4, hR6_lt]; exact rfl
      · exact ⟨by rw [HP.out], (by repeat (first | exact Below.refl _ _ | assumption | refine Below.setCell ?_ (by first | omega | (simp; done) | (simp; omega)) _ | refine Below.alloc ?_ (by first | omega | (simp; done) | (simp; omega)) _ | refine Below.drew ?_ | refine Below.drewN' ?_ _ | refine Below.trans ?_ (Below.mono (by assumption) (by first | omega | (simp; done) | (simp; omega)))))⟩
    · exfalso
      cases r <;> contradiction
set_option maxHeartbeats 8000000 in
theorem iput_in1 (a b c d e wd t cm : Int) (w : World) (h : PutIn a b c d e wd t cm) (hs : ¬ cm - t - e < 0) (r : Bool) (hr : stB a (max b wd) (c + 1) (putD d e t cm) (cm - t) = r) :
    Calls Try.prog 20 #[.agg #[.int .i64 a, .int .i64 b, .int .i64 c, .int .i64 d, .int .i64 e], .int .i64 wd, .int .i64 t, .int .i64 cm] w fun x w' => (if r then putGood a b c d e wd t cm w x w' else putBad w x w') := by
  obtain ⟨h1, h2, h3⟩ := h
  obtain ⟨a1, a2, a3, a4, a5, a6, a7, a8, a9, a10, a11⟩ := id h1
  obtain ⟨b1, b2, b3, b4, b5, b6⟩ := id h2
  have q1 : stB a b c d e = true := decide_eq_true h1
  have q2 : wtB wd t cm = true := decide_eq_true h2
  have q3 : decide (wd < a) = false := by simp; omega
  have q4 : decide (cm - t - e < 0) = false := by simp; omega
  have hv := fun w => istv_any a b c d e w
  have hl := fun w => newArr_any wd t cm w
  rw [q1] at hv
  rw [q2] at hl
  have HP : Hid (d + (cm - t - e) - (d + 8) / 16 = putD d e t cm) := by show _ = _; unfold putD absI; split <;> omega
  have hv2 := fun w => istv_any a (max b wd) (c + 1) (putD d e t cm) (cm - t) w
  rw [hr, ← HP.out] at hv2
  have HV2 := Lib.hid hv2
  clear h1 h2 q1 q2 hr hv2
  have hmx := fun (w : World) (ts : Array TypeId) (t : TypeId) (x y : Int) => run_max_plain (P := Try.prog) w ts t x y
  have hS := (Bk.new w 31 #[.int .i64 a, .int .i64 b, .int .i64 c, .int .i64 d, .int .i64 e]).alloc (.cells #[.int .i64 0, .int .i64 0, .int .i64 0, .int .i64 0, .int .i64 0] 31)
  have hR := Bk.new (w.alloc (.cells #[.int .i64 a, .int .i64 b, .int .i64 c, .int .i64 d, .int .i64 e] 31)) 31 #[.int .i64 0, .int .i64 0, .int .i64 0, .int .i64 0, .int .i64 0]
  rw [World.size_alloc] at hR
  go_enter Try.func20, Try.ntmps20
  go_wp2_with fail
  refine (hl _).mono ?_
  rintro x w1 ⟨rfl, hb1⟩
  have hB1 : Below w.heap.size w w1 := (by repeat (first | exact Below.refl _ _ | assumption | refine Below.setCell ?_ (by first | omega | (simp; done) | (simp; omega)) _ | refine Below.alloc ?_ (by first | omega | (simp; done) | (simp; omega)) _ | refine Below.drew ?_ | refine Below.drewN' ?_ _ | refine Below.trans ?_ (Below.mono (by assumption) (by first | omega | (simp; done) | (simp; omega)))))
  have s1 := hB1.size
  replace hS := hS.below hb1 (by first | omega | (simp; done) | (simp; omega))
  (try clear hS_c0); (try clear hS_f0)
  (try clear hS_c1); (try clear hS_f1)
  (try clear hS_c2); (try clear hS_f2)
  (try clear hS_c3); (try clear hS_f3)
  (try clear hS_c4); (try clear hS_f4)
  (try clear hS_lt)
  have hS_lt := hS.lt; (try simp only [World.size_alloc] at hS_lt)
  have hS_c0 := hS.cell 0; have hS_f0 := hS.frozen 0
  have hS_c1 := hS.cell 1; have hS_f1 := hS.frozen 1
  have hS_c2 := hS.cell 2; have hS_f2 := hS.frozen 2
  have hS_c3 := hS.cell 3; have hS_f3 := hS.frozen 3
  have hS_c4 := hS.cell 4; have hS_f4 := hS.frozen 4
  simp only [List.getElem?_toArray, List.getElem?_cons_zero, List.getElem?_cons_succ] at hS_c0 hS_c1 hS_c2 hS_c3 hS_c4
  replace hR := hR.below hb1 (by first | omega | (simp; done) | (simp; omega))
  (try clear hR_c0); (try clear hR_f0)
  (try clear hR_c1); (try clear hR_f1)
  (try clear hR_c2); (try clear hR_f2)
  (try clear hR_c3); (try clear hR_f3)
  (try clear hR_c4); (try clear hR_f4)
  (try clear hR_lt)
  have hR_lt := hR.lt; (try simp only [World.size_alloc] at hR_lt)
  have hR_c0 := hR.cell 0; have hR_f0 := hR.frozen 0
  have hR_c1 := hR.cell 1; have hR_f1 := hR.frozen 1
  have hR_c2 := hR.cell 2; have hR_f2 := hR.frozen 2
  have hR_c3 := hR.cell 3; have hR_f3 := hR.frozen 3
  have hR_c4 := hR.cell 4; have hR_f4 := hR.frozen 4
  simp only [List.getElem?_toArray, List.getElem?_cons_zero, List.getElem?_cons_succ] at hR_c0 hR_c1 hR_c2 hR_c3 hR_c4
  go_wp2_with fail
  refine (hv _).mono ?_
  rintro x w2 ⟨rfl, hb2⟩
  have hB2 : Below w.heap.size w w2 := (by repeat (first | exact Below.refl _ _ | assumption | refine Below.setCell ?_ (by first | omega | (simp; done) | (simp; omega)) _ | refine Below.alloc ?_ (by first | omega | (simp; done) | (simp; omega)) _ | refine Below.drew ?_ | refine Below.drewN' ?_ _ | refine Below.trans ?_ (Below.mono (by assumption) (by first | omega | (simp; done) | (simp; omega)))))
  have s2 := hB2.size
  have hN := (Bk.new w1 66 #[.int .i64 t, .int .i64 cm, .int .i64 wd]).below hb2 (by simp)
  replace hS := hS.alloc (.cells #[.int .i64 t, .int .i64 cm, .int .i64 wd] 66)
  replace hR := hR.alloc (.cells #[.int .i64 t, .int .i64 cm, .int .i64 wd] 66)
  replace hS := hS.below hb2 (by first | omega | (simp; done) | (simp; omega))
  (try clear hS_c0); (try clear hS_f0)
  (try clear hS_c1); (try clear hS_f1)
  (try clear hS_c2); (try clear hS_f2)
  (try clear hS_c3); (try clear hS_f3)
  (try clear hS_c4); (try clear hS_f4)
  (try clear hS_lt)
  have hS_lt := hS.lt; (try simp only [World.size_alloc] at hS_lt)
  have hS_c0 := hS.cell 0; have hS_f0 := hS.frozen 0
  have hS_c1 := hS.cell 1; have hS_f1 := hS.frozen 1
  have hS_c2 := hS.cell 2; have hS_f2 := hS.frozen 2
  have hS_c3 := hS.cell 3; have hS_f3 := hS.frozen 3
  have hS_c4 := hS.cell 4; have hS_f4 := hS.frozen 4
  simp only [List.getElem?_toArray, List.getElem?_cons_zero, List.getElem?_cons_succ] at hS_c0 hS_c1 hS_c2 hS_c3 hS_c4
  replace hR := hR.below hb2 (by first | omega | (simp; done) | (simp; omega))
  (try clear hR_c0); (try clear hR_f0)
  (try clear hR_c1); (try clear hR_f1)
  (try clear hR_c2); (try clear hR_f2)
  (try clear hR_c3); (try clear hR_f3)
  (try clear hR_c4); (try clear hR_f4)
  (try clear hR_lt)
  have hR_lt := hR.lt; (try simp only [World.size_alloc] at hR_lt)
  have hR_c0 := hR.cell 0; have hR_f0 := hR.frozen 0
  have hR_c1 := hR.cell 1; have hR_f1 := hR.frozen 1
  have hR_c2 := hR.cell 2; have hR_f2 := hR.frozen 2
  have hR_c3 := hR.cell 3; have hR_f3 := hR.frozen 3
  have hR_c4 := hR.cell 4; have hR_f4 := hR.frozen 4
  simp only [List.getElem?_toArray, List.getElem?_cons_zero, List.getElem?_cons_succ] at hR_c0 hR_c1 hR_c2 hR_c3 hR_c4
  (try clear hN_c0); (try clear hN_f0)
  (try clear hN_c1); (try clear hN_f1)
  (try clear hN_c2); (try clear hN_f2)
  (try clear hN_lt)
  have hN_lt := hN.lt; (try simp only [World.size_alloc] at hN_lt)
  have hN_c0 := hN.cell 0; have hN_f0 := hN.frozen 0
  have hN_c1 := hN.cell 1; have hN_f1 := hN.frozen 1
  have hN_c2 := hN.cell 2; have hN_f2 := hN.frozen 2
  simp only [List.getElem?_toArray, List.getElem?_cons_zero, List.getElem?_cons_succ] at hN_c0 hN_c1 hN_c2
  have s12 : w1.heap.size < w2.heap.size := by have := hb2.size; simp only [World.size_alloc] at this; omega
  clear hb1 hb2 hB1
  go_wp2_with fail
  refine wp_region_cells [(w1.heap.size, 0, .int .i64 t), (w1.heap.size, 1, .int .i64 cm), (w.heap.size, 4, .int .i64 e)] (by kernel_rfl) (by kernel_rfl) ?_ ?_
  · simp only [List.forall_mem_cons]
    exact ⟨by go_simp, by go_simp, by go_simp, by simp⟩
  intro hcs
  simp only [List.forall_mem_cons] at hcs
  obtain ⟨dc0, dc1, dc2, -⟩ := hcs
  repeat (any_goals (first | go_big_quiet_step (first | (go_at_call 49; exact BW.calls (Nat.le_refl _) _ (itrip_below _ _ _ (by omega) (by omega)))) | quiet_step (first | (go_at_call 49; exact BW.calls (Nat.le_refl _) _ (itrip_below _ _ _ (by omega) (by omega))))))
  refine wpQuiet_nil ?_
  intro _ hw'
  obtain ⟨xw, hw''⟩ := hw'
  subst hw''
  have hbw := xw.2
  clear dc0 dc1 dc2
  generalize xw.1 = ww at hbw ⊢
  clear xw
  obtain ⟨kw, fw⟩ := bcell hbw
  have sw := hbw.size
  replace hS := hS.below hbw (by first | omega | (simp; done) | (simp; omega))
  (try clear hS_c0); (try clear hS_f0)
  (try clear hS_c1); (try clear hS_f1)
  (try clear hS_c2); (try clear hS_f2)
  (try clear hS_c3); (try clear hS_f3)
  (try clear hS_c4); (try clear hS_f4)
  (try clear hS_lt)
  have hS_lt := hS.lt; (try simp only [World.size_alloc] at hS_lt)
  have hS_c0 := hS.cell 0; have hS_f0 := hS.frozen 0
  have hS_c1 := hS.cell 1; have hS_f1 := hS.frozen 1
  have hS_c2 := hS.cell 2; have hS_f2 := hS.frozen 2
  have hS_c3 := hS.cell 3; have hS_f3 := hS.frozen 3
  have hS_c4 := hS.cell 4; have hS_f4 := hS.frozen 4
  simp only [List.getElem?_toArray, List.getElem?_cons_zero, List.getElem?_cons_succ] at hS_c0 hS_c1 hS_c2 hS_c3 hS_c4
  replace hR := hR.below hbw (by first | omega | (simp; done) | (simp; omega))
  (try clear hR_c0); (try clear hR_f0)
  (try clear hR_c1); (try clear hR_f1)
  (try clear hR_c2); (try clear hR_f2)
  (try clear hR_c3); (try clear hR_f3)
  (try clear hR_c4); (try clear hR_f4)
  (try clear hR_lt)
  have hR_lt := hR.lt; (try simp only [World.size_alloc] at hR_lt)
  have hR_c0 := hR.cell 0; have hR_f0 := hR.frozen 0
  have hR_c1 := hR.cell 1; have hR_f1 := hR.frozen 1
  have hR_c2 := hR.cell 2; have hR_f2 := hR.frozen 2
  have hR_c3 := hR.cell 3; have hR_f3 := hR.frozen 3
  have hR_c4 := hR.cell 4; have hR_f4 := hR.frozen 4
  simp only [List.getElem?_toArray, List.getElem?_cons_zero, List.getElem?_cons_succ] at hR_c0 hR_c1 hR_c2 hR_c3 hR_c4
  replace hN := hN.below hbw (by first | omega | (simp; done) | (simp; omega))
  (try clear hN_c0); (try clear hN_f0)
  (try clear hN_c1); (try clear hN_f1)
  (try clear hN_c2); (try clear hN_f2)
  (try clear hN_lt)
  have hN_lt := hN.lt; (try simp only [World.size_alloc] at hN_lt)
  have hN_c0 := hN.cell 0; have hN_f0 := hN.frozen 0
  have hN_c1 := hN.cell 1; have hN_f1 := hN.frozen 1
  have hN_c2 := hN.cell 2; have hN_f2 := hN.frozen 2
  simp only [List.getElem?_toArray, List.getElem?_cons_zero, List.getElem?_cons_succ] at hN_c0 hN_c1 hN_c2
  have hB3 : Below w.heap.size w ww := (by repeat (first | exact Below.refl _ _ | assumption | refine Below.setCell ?_ (by first | omega | (simp; done) | (simp; omega)) _ | refine Below.alloc ?_ (by first | omega | (simp; done) | (simp; omega)) _ | refine Below.drew ?_ | refine Below.drewN' ?_ _ | refine Below.trans ?_ (Below.mono (by assumption) (by first | omega | (simp; done) | (simp; omega)))))
  have s3 : w2.heap.size ≤ ww.heap.size := sw
  clear kw fw hbw hB2
  go_wp2_with fail
  refine wp_region_held_drew (S := fun w' => w'.cell? ⟨w.heap.size, 0, none⟩ = some (.int .i64 a) ∧ w'.cell? ⟨w.heap.size, 1, none⟩ = some (.int .i64 b) ∧ w'.cell? ⟨w.heap.size, 2, none⟩ = some (.int .i64 c) ∧ w'.cell? ⟨w.heap.size, 3, none⟩ = some (.int .i64 d) ∧ w'.cell? ⟨w1.heap.size, 0, none⟩ = some (.int .i64 t) ∧ w'.cell? ⟨w1.heap.size, 1, none⟩ = some (.int .i64 cm) ∧ w'.cell? ⟨w1.heap.size, 2, none⟩ = some (.int .i64 wd)) (by kernel_rfl) ?_ (fun hHeld => ?_)
  · exact ⟨hS_c0, hS_c1, hS_c2, hS_c3, hN_c0, hN_c1, hN_c2⟩
  refine wpAnyH_take (i := 0) (v := ?_) rfl (by kernel_rfl) (by kernel_rfl) (by kernel_rfl) (fun _ _ _ h => h) (Or.inl ⟨by rfl, ?_⟩) (by assumption) ?_
  rotate_left
  · (intro w hSw; (try dsimp only at hSw); go_simp; try with_reducible rfl)
  refine wpAnyH_take (i := 1) (v := ?_) rfl (by kernel_rfl) (by kernel_rfl) (by kernel_rfl) (fun _ _ _ h => h) (Or.inl ⟨by rfl, ?_⟩) (by assumption) ?_
  rotate_left
  · (intro w hSw; (try dsimp only at hSw); go_simp; try with_reducible rfl)
  refine wpAnyH_take (i := 2) (v := ?_) rfl (by kernel_rfl) (by kernel_rfl) (by kernel_rfl) (fun _ _ _ h => h) (Or.inl ⟨by rfl, ?_⟩) (by assumption) ?_
  rotate_left
  · (intro w hSw; (try dsimp only at hSw); go_simp; try with_reducible rfl)
  refine wpAnyH_take (i := 3) (v := ?_) rfl (by kernel_rfl) (by kernel_rfl) (by kernel_rfl) (fun _ _ _ h => h) (Or.inl ⟨by rfl, ?_⟩) (by assumption) ?_
  rotate_left
  · (intro w hSw; (try dsimp only at hSw); go_simp; try with_reducible rfl)
  refine wpAnyH_take (i := 4) (v := ?_) rfl (by kernel_rfl) (by kernel_rfl) (by kernel_rfl) (fun _ _ _ h => h) (Or.inl ⟨by rfl, ?_⟩) (by assumption) ?_
  rotate_left
  · (intro w hSw; (try dsimp only at hSw); go_simp; try with_reducible rfl)
  refine wpAnyH_take (i := 5) (v := ?_) rfl (by kernel_rfl) (by kernel_rfl) (by kernel_rfl) (fun _ _ _ h => h) (Or.inl ⟨by rfl, ?_⟩) (by assumption) ?_
  rotate_left
  · (intro w hSw; (try dsimp only at hSw); go_simp; try with_reducible rfl)
  refine wpAnyH_take (i := 6) (v := ?_) rfl (by kernel_rfl) (by kernel_rfl) (by kernel_rfl) (fun _ _ _ h => h) (Or.inl ⟨by rfl, ?_⟩) (by assumption) ?_
  rotate_left
  · (intro w hSw; (try dsimp only at hSw); go_simp; try with_reducible rfl)
  refine wpAnyH_take (i := 7) (v := ?_) rfl (by kernel_rfl) (by kernel_rfl) (by kernel_rfl) (fun _ _ _ h => h) (Or.inl ⟨by rfl, ?_⟩) (by assumption) ?_
  rotate_left
  · (intro w hSw; (try dsimp only at hSw); go_simp; try with_reducible rfl)
  refine wpAnyH_take (i := 8) (v := ?_) rfl (by kernel_rfl) (by kernel_rfl) (by kernel_rfl) (fun _ _ _ h => h) (Or.inl ⟨by rfl, ?_⟩) (by assumption) ?_
  rotate_left
  · (intro w hSw; (try dsimp only at hSw); go_simp; try with_reducible rfl)
  refine wpAnyH_take (i := 9) (v := ?_) rfl (by kernel_rfl) (by kernel_rfl) (by kernel_rfl) (fun _ _ _ h => h) (Or.inl ⟨by rfl, ?_⟩) (by assumption) ?_
  rotate_left
  · (intro w hSw; (try dsimp only at hSw); go_simp; try with_reducible rfl)
  refine wpAnyH_take (i := 10) (v := ?_) rfl (by kernel_rfl) (by kernel_rfl) (by kernel_rfl) (fun _ _ _ h => h) (Or.inl ⟨by rfl, ?_⟩) (by assumption) ?_
  rotate_left
  · (intro w hSw; (try dsimp only at hSw); go_simp; try with_reducible rfl)
  refine wpAnyH_take (i := 11) (v := ?_) rfl (by kernel_rfl) (by kernel_rfl) (by kernel_rfl) (fun _ _ _ h => h) (Or.inl ⟨by rfl, ?_⟩) (by assumption) ?_
  rotate_left
  · (intro w hSw; (try dsimp only at hSw); go_simp; try with_reducible rfl)
  refine wpAnyH_take (i := 12) (v := ?_) rfl (by kernel_rfl) (by kernel_rfl) (by kernel_rfl) (fun _ _ _ h => h) (Or.inl ⟨by rfl, ?_⟩) (by assumption) ?_
  rotate_left
  · (intro w hSw; (try dsimp only at hSw); go_simp; try with_reducible rfl)
  refine wpAnyH_take (i := 13) (v := ?_) rfl (by kernel_rfl) (by kernel_rfl) (by kernel_rfl) (fun _ _ _ h => h) (Or.inl ⟨by rfl, ?_⟩) (by assumption) ?_
  rotate_left
  · (intro w hSw; (try dsimp only at hSw); go_simp; try with_reducible rfl)
  refine wpAnyH_take (i := 14) (v := ?_) rfl (by kernel_rfl) (by kernel_rfl) (by kernel_rfl) (fun _ _ _ h => h) (Or.inl ⟨by rfl, ?_⟩) (by assumption) ?_
  rotate_left
  · (intro w hSw; (try dsimp only at hSw); go_simp; try with_reducible rfl)
  refine wpAnyH_take (i := 15) (v := ?_) rfl (by kernel_rfl) (by kernel_rfl) (by kernel_rfl) (fun _ _ _ h => h) (Or.inl ⟨by rfl, ?_⟩) (by assumption) ?_
  rotate_left
  · (intro w hSw; (try dsimp only at hSw); go_simp; try with_reducible rfl)
  refine wpAnyH_take (i := 16) (v := ?_) rfl (by kernel_rfl) (by kernel_rfl) (by kernel_rfl) (fun _ _ _ h => h) (Or.inl ⟨by rfl, ?_⟩) (by assumption) ?_
  rotate_left
  · (intro w hSw; (try dsimp only at hSw); go_simp; try with_reducible rfl)
  refine wpAnyH_take (i := 17) (v := ?_) rfl (by kernel_rfl) (by kernel_rfl) (by kernel_rfl) (fun _ _ _ h => h) (Or.inl ⟨by rfl, ?_⟩) (by assumption) ?_
  rotate_left
  · (intro w hSw; (try dsimp only at hSw); go_simp; try with_reducible rfl)
  refine wpAnyH_take (i := 18) (v := ?_) rfl (by kernel_rfl) (by kernel_rfl) (by kernel_rfl) (fun _ _ _ h => h) (Or.inl ⟨by rfl, ?_⟩) (by assumption) ?_
  rotate_left
  · (intro w hSw; (try dsimp only at hSw); go_simp; try with_reducible rfl)
  refine wpAnyH_take (i := 19) (v := ?_) rfl (by kernel_rfl) (by kernel_rfl) (by kernel_rfl) (fun _ _ _ h => h) (Or.inl ⟨by rfl, ?_⟩) (by assumption) ?_
  rotate_left
  · (intro w hSw; (try dsimp only at hSw); go_simp; try with_reducible rfl)
  refine wpAnyH_take (i := 20) (v := ?_) rfl (by kernel_rfl) (by kernel_rfl) (by kernel_rfl) (fun _ _ _ h => h) (Or.inl ⟨by rfl, ?_⟩) (by assumption) ?_
  rotate_left
  · (intro w hSw; (try dsimp only at hSw); go_simp; try with_reducible rfl)
  refine wpAnyH_ready (rs := [21, 23]) (by kernel_rfl) (by simp) ?_
  refine AllReadyH.cons rfl (fun K hK => ?_) (AllReadyH.cons rfl (fun K hK => ?_) AllReadyH.nil) <;> go_simp
  · refine (itrip_any _ _ _ (by omega) (by omega)).mono ?_
    rintro x w4 ⟨rfl, rfl⟩
    go_wp2_with fail
    refine hK.out _ _ ?_ (fun hHeld => ?_)
    · (try dsimp only)
      go_keep
    clear hK K
    refine wpAnyH_take (i := 22) (v := ?_) rfl (by kernel_rfl) (by kernel_rfl) (by kernel_rfl) (fun _ _ _ h => h) (Or.inl ⟨by rfl, ?_⟩) (by assumption) ?_
    rotate_left
    · (intro w hSw; (try dsimp only at hSw); go_simp; try with_reducible rfl)
    refine wpAnyH_ready (rs := [23]) (by kernel_rfl) (by simp) ?_
    refine AllReadyH.cons rfl (fun K hK => ?_) AllReadyH.nil
    go_simp
    refine hK.out _ _ ?_ (fun hHeld => ?_)
    · (try dsimp only)
      go_keep
    clear hK K
    refine wpAnyH_ready (rs := [24]) (by kernel_rfl) (by simp) ?_
    refine AllReadyH.cons rfl (fun K hK => ?_) AllReadyH.nil
    go_simp
    refine hK.out _ _ ?_ (fun hHeld => ?_)
    · (try dsimp only)
      go_keep
    clear hK K
    refine wpAnyH_done (by kernel_rfl) ?_ _
    go_wp2_with fail
    refine (HV2.out _).mono ?_
    rintro x w6 ⟨rfl, hb6⟩
    have hR6 : Bk w6 (w.heap.size + 1) 31 #[.int .i64 0, .int .i64 0, .int .i64 0, .int .i64 0, .int .i64 0] := Bk.below (by repeat (first | exact hR | refine Bk.alloc ?_ _ | refine Bk.drew ?_)) hb6 (by simp; omega)
    have hB6 : Below w.heap.size w w6 := (by repeat (first | exact Below.refl _ _ | assumption | refine Below.setCell ?_ (by first | omega | (simp; done) | (simp; omega)) _ | refine Below.alloc ?_ (by first | omega | (simp; done) | (simp; omega)) _ | refine Below.drew ?_ | refine Below.drewN' ?_ _ | refine Below.trans ?_ (Below.mono (by assumption) (by first | omega | (simp; done) | (simp; omega)))))
    obtain ⟨k6, f6⟩ := bcell hb6
    (try simp only [World.size_alloc] at k6 f6)
    (try clear hR6_c0); (try clear hR6_f0)
    (try clear hR6_c1); (try clear hR6_f1)
    (try clear hR6_c2); (try clear hR6_f2)
    (try clear hR6_c3); (try clear hR6_f3)
    (try clear hR6_c4); (try clear hR6_f4)
    (try clear hR6_lt)
    have hR6_lt := hR6.lt; (try simp only [World.size_alloc] at hR6_lt)
    have hR6_c0 := hR6.cell 0; have hR6_f0 := hR6.frozen 0
    have hR6_c1 := hR6.cell 1; have hR6_f1 := hR6.frozen 1
    have hR6_c2 := hR6.cell 2; have hR6_f2 := hR6.frozen 2
    have hR6_c3 := hR6.cell 3; have hR6_f3 := hR6.frozen 3
    have hR6_c4 := hR6.cell 4; have hR6_f4 := hR6.frozen 4
    simp only [List.getElem?_toArray, List.getElem?_cons_zero, List.getElem?_cons_succ] at hR6_c0 hR6_c1 hR6_c2 hR6_c3 hR6_c4
    go_wp2
    · exfalso
      cases r <;> contradiction
    · skip
      refine ⟨rfl, ?_⟩
      apply Exists.intro
      apply And.intro
      · simp [results, Try.results20, go_sem, hR6_c0, hR6_c1, hR6_c2, hR6_c3, hR6_c4, hR6_lt]; exact rfl
      · exact ⟨rfl, (by repeat (first | exact Below.refl _ _ | assumption | refine Below.setCell ?_ (by first | omega | (simp; done) | (simp; omega)) _ | refine Below.alloc ?_ (by first | omega | (simp; done) | (simp; omega)) _ | refine Below.drew ?_ | refine Below.drewN' ?_ _ | refine Below.trans ?_ (Below.mono (by assumption) (by first | omega | (simp; done) | (simp; omega)))))⟩
    · skip
      refine ⟨rfl, ?_⟩
      apply Exists.intro
      apply And.intro
      · simp [results, Try.results20, go_sem, hR6_c0, hR6_c1, hR6_c2, hR6_c3, hR6_c4, hR6_lt]; exact rfl
      · exact ⟨by rw [HP.out], (by repeat (first | exact Below.refl _ _ | assumption | refine Below.setCell ?_ (by first | omega | (simp; done) | (simp; omega)) _ | refine Below.alloc ?_ (by first | omega | (simp; done) | (simp; omega)) _ | refine Below.drew ?_ | refine Below.drewN' ?_ _ | refine Below.trans ?_ (Below.mono (by assumption) (by first | omega | (simp; done) | (simp; omega)))))⟩
    · exfalso
      cases r <;> contradiction
  · skip
    refine hK.out _ _ ?_ (fun hHeld => ?_)
    · (try dsimp only)
      go_keep
    clear hK K
    refine wpAnyH_ready (rs := [21]) (by kernel_rfl) (by simp) ?_
    refine AllReadyH.cons rfl (fun K hK => ?_) AllReadyH.nil
    go_simp
    refine (itrip_any _ _ _ (by omega) (by omega)).mono ?_
    rintro x w4 ⟨rfl, rfl⟩
    go_wp2_with fail
    refine hK.out _ _ ?_ (fun hHeld => ?_)
    · (try dsimp only)
      go_keep
    clear hK K
    refine wpAnyH_take (i := 22) (v := ?_) rfl (by kernel_rfl) (by kernel_rfl) (by kernel_rfl) (fun _ _ _ h => h) (Or.inl ⟨by rfl, ?_⟩) (by assumption) ?_
    rotate_left
    · (intro w hSw; (try dsimp only at hSw); go_simp; try with_reducible rfl)
    refine wpAnyH_ready (rs := [24]) (by kernel_rfl) (by simp) ?_
    refine AllReadyH.cons rfl (fun K hK => ?_) AllReadyH.nil
    go_simp
    refine hK.out _ _ ?_ (fun hHeld => ?_)
    · (try dsimp only)
      go_keep
    clear hK K
    refine wpAnyH_done (by kernel_rfl) ?_ _
    go_wp2_with fail
    refine (HV2.out _).mono ?_
    rintro x w6 ⟨rfl, hb6⟩
    have hR6 : Bk w6 (w.heap.size + 1) 31 #[.int .i64 0, .int .i64 0, .int .i64 0, .int .i64 0, .int .i64 0] := Bk.below (by repeat (first | exact hR | refine Bk.alloc ?_ _ | refine Bk.drew ?_)) hb6 (by simp; omega)
    have hB6 : Below w.heap.size w w6 := (by repeat (first | exact Below.refl _ _ | assumption | refine Below.setCell ?_ (by first | omega | (simp; done) | (simp; omega)) _ | refine Below.alloc ?_ (by first | omega | (simp; done) | (simp; omega)) _ | refine Below.drew ?_ | refine Below.drewN' ?_ _ | refine Below.trans ?_ (Below.mono (by assumption) (by first | omega | (simp; done) | (simp; omega)))))
    obtain ⟨k6, f6⟩ := bcell hb6
    (try simp only [World.size_alloc] at k6 f6)
    (try clear hR6_c0); (try clear hR6_f0)
    (try clear hR6_c1); (try clear hR6_f1)
    (try clear hR6_c2); (try clear hR6_f2)
    (try clear hR6_c3); (try clear hR6_f3)
    (try clear hR6_c4); (try clear hR6_f4)
    (try clear hR6_lt)
    have hR6_lt := hR6.lt; (try simp only [World.size_alloc] at hR6_lt)
    have hR6_c0 := hR6.cell 0; have hR6_f0 := hR6.frozen 0
    have hR6_c1 := hR6.cell 1; have hR6_f1 := hR6.frozen 1
    have hR6_c2 := hR6.cell 2; have hR6_f2 := hR6.frozen 2
    have hR6_c3 := hR6.cell 3; have hR6_f3 := hR6.frozen 3
    have hR6_c4 := hR6.cell 4; have hR6_f4 := hR6.frozen 4
    simp only [List.getElem?_toArray, List.getElem?_cons_zero, List.getElem?_cons_succ] at hR6_c0 hR6_c1 hR6_c2 hR6_c3 hR6_c4
    go_wp2
    · exfalso
      cases r <;> contradiction
    · skip
      refine ⟨rfl, ?_⟩
      apply Exists.intro
      apply And.intro
      · simp [results, Try.results20, go_sem, hR6_c0, hR6_c1, hR6_c2, hR6_c3, hR6_c4, hR6_lt]; exact rfl
      · exact ⟨rfl, (by repeat (first | exact Below.refl _ _ | assumption | refine Below.setCell ?_ (by first | omega | (simp; done) | (simp; omega)) _ | refine Below.alloc ?_ (by first | omega | (simp; done) | (simp; omega)) _ | refine Below.drew ?_ | refine Below.drewN' ?_ _ | refine Below.trans ?_ (Below.mono (by assumption) (by first | omega | (simp; done) | (simp; omega)))))⟩
    · skip
      refine ⟨rfl, ?_⟩
      apply Exists.intro
      apply And.intro
      · simp [results, Try.results20, go_sem, hR6_c0, hR6_c1, hR6_c2, hR6_c3, hR6_c4, hR6_lt]; exact rfl
      · exact ⟨by rw [HP.out], (by repeat (first | exact Below.refl _ _ | assumption | refine Below.setCell ?_ (by first | omega | (simp; done) | (simp; omega)) _ | refine Below.alloc ?_ (by first | omega | (simp; done) | (simp; omega)) _ | refine Below.drew ?_ | refine Below.drewN' ?_ _ | refine Below.trans ?_ (Below.mono (by assumption) (by first | omega | (simp; done) | (simp; omega)))))⟩
    · exfalso
      cases r <;> contradiction

theorem stB_iff {a b c d e : Int} : stB a b c d e = true ↔ StOk a b c d e := by unfold stB; exact decide_eq_true_iff
theorem put_ok {P : Program} {f : FuncId} {a b c d e wd t cm : Int} {w : World} (h : PutOk a b c d e wd t cm)
    (hc : ∀ r, stB a (max b wd) (c + 1) (putD d e t cm) (cm - t) = r → Calls P f #[.agg #[.int .i64 a, .int .i64 b, .int .i64 c, .int .i64 d, .int .i64 e], .int .i64 wd, .int .i64 t, .int .i64 cm] w fun x w' => (if r then putGood a b c d e wd t cm w x w' else putBad w x w')) :
    Calls P f #[.agg #[.int .i64 a, .int .i64 b, .int .i64 c, .int .i64 d, .int .i64 e], .int .i64 wd, .int .i64 t, .int .i64 cm] w (putGood a b c d e wd t cm w) := by
  simpa using hc true (stB_iff.2 h.2)
theorem put_no {P : Program} {f : FuncId} {a b c d e wd t cm : Int} {w : World} (h : ¬ PutOk a b c d e wd t cm) (h0 : PutIn a b c d e wd t cm)
    (hc : ∀ r, stB a (max b wd) (c + 1) (putD d e t cm) (cm - t) = r → Calls P f #[.agg #[.int .i64 a, .int .i64 b, .int .i64 c, .int .i64 d, .int .i64 e], .int .i64 wd, .int .i64 t, .int .i64 cm] w fun x w' => (if r then putGood a b c d e wd t cm w x w' else putBad w x w')) :
    Calls P f #[.agg #[.int .i64 a, .int .i64 b, .int .i64 c, .int .i64 d, .int .i64 e], .int .i64 wd, .int .i64 t, .int .i64 cm] w (putBad w) := by
  have hn : ¬ StOk a (max b wd) (c + 1) (putD d e t cm) (cm - t) := fun hh => h ⟨h0, hh⟩
  have := hc false (by cases q : stB a (max b wd) (c + 1) (putD d e t cm) (cm - t); rfl; exact absurd (stB_iff.1 q) hn)
  simpa using this
theorem sput_ok (a b c d e wd t cm : Int) (w : World) (h : PutOk a b c d e wd t cm) : Calls Try.prog 18 #[.agg #[.int .i64 a, .int .i64 b, .int .i64 c, .int .i64 d, .int .i64 e], .int .i64 wd, .int .i64 t, .int .i64 cm] w (putGood a b c d e wd t cm w) :=
  put_ok h fun r hr => sput_in a b c d e wd t cm w h.1 r hr
theorem sput_no (a b c d e wd t cm : Int) (w : World) (h : ¬ PutOk a b c d e wd t cm) : Calls Try.prog 18 #[.agg #[.int .i64 a, .int .i64 b, .int .i64 c, .int .i64 d, .int .i64 e], .int .i64 wd, .int .i64 t, .int .i64 cm] w (putBad w) := by
  by_cases h0 : PutIn a b c d e wd t cm
  · exact put_no h h0 fun r hr => sput_in a b c d e wd t cm w h0 r hr
  · exact sput_out a b c d e wd t cm w h0
theorem iput_in (a b c d e wd t cm : Int) (w : World) (h : PutIn a b c d e wd t cm) (r : Bool) (hr : stB a (max b wd) (c + 1) (putD d e t cm) (cm - t) = r) :
    Calls Try.prog 20 #[.agg #[.int .i64 a, .int .i64 b, .int .i64 c, .int .i64 d, .int .i64 e], .int .i64 wd, .int .i64 t, .int .i64 cm] w fun x w' => (if r then putGood a b c d e wd t cm w x w' else putBad w x w') := by
  by_cases hs : cm - t - e < 0
  · exact iput_in0 a b c d e wd t cm w h hs r hr
  · exact iput_in1 a b c d e wd t cm w h hs r hr
theorem iput_ok (a b c d e wd t cm : Int) (w : World) (h : PutOk a b c d e wd t cm) : Calls Try.prog 20 #[.agg #[.int .i64 a, .int .i64 b, .int .i64 c, .int .i64 d, .int .i64 e], .int .i64 wd, .int .i64 t, .int .i64 cm] w (putGood a b c d e wd t cm w) :=
  put_ok h fun r hr => iput_in a b c d e wd t cm w h.1 r hr
theorem iput_no (a b c d e wd t cm : Int) (w : World) (h : ¬ PutOk a b c d e wd t cm) : Calls Try.prog 20 #[.agg #[.int .i64 a, .int .i64 b, .int .i64 c, .int .i64 d, .int .i64 e], .int .i64 wd, .int .i64 t, .int .i64 cm] w (putBad w) := by
  by_cases h0 : PutIn a b c d e wd t cm
  · exact put_no h h0 fun r hr => iput_in a b c d e wd t cm w h0 r hr
  · exact iput_out a b c d e wd t cm w h0
end Go.Proofs.Ytambjhapnhmmmaa
