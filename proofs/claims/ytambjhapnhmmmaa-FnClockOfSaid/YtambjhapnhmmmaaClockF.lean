/-
  Clocks: the draw for ClockOf, and ClockOf of the program.
  Conditions: the arguments' ranges, as each theorem states them.
-/
import Derived.Test.YtambjhapnhmmmaaRows
import Derived.Test.YtambjhapnhmmmaaLib
import Derived.Test.YtambjhapnhmmmaaDraw
import Derived.Test.YtambjhapnhmmmaaClock
import Derived.Test.YtambjhapnhmmmaaClockE
namespace Go.Proofs.Ytambjhapnhmmmaa
open Go.RowKit
set_option linter.unusedVariables false

theorem res4 {P : Program} {fn : Func} {t u v x : Tmp} (h : fn.results = #[.tmp t, .tmp u, .tmp v, .tmp x]) (tmps : Array Value) (w : World) :
    (results fn tmps).run P w = .ok (.tuple #[tmps.getD t undef, tmps.getD u undef, tmps.getD v undef, tmps.getD x undef]) w := by simp [results, h]

def ClockOfDrawn (w : World) (e : Ending) (w' : World) : Prop :=
  ∃ a b c d : Int, e = .returned (.tuple #[.int .i64 a, .int .i64 b, .int .i64 c, .int .i64 d]) ∧ Below w.heap.size w w'

set_option maxHeartbeats 2000000 in
theorem draw_of (A : Option Addr) (n c : Nat) (w : World) (h : Bytes w w.heap.size A n) (hnc : n ≤ c) (hc : c ≤ maxLen) :
    Calls Try.prog 22 #[.slice A n c] w (ClockOfDrawn w) := by
  go_enter Try.func22, Try.ntmps22
  go_wp2_with fail
  refine (open_any A n c _ h hnc hc).mono ?_
  rintro e w1 ⟨rfl, hrd, hb⟩
  go_wp2_with fail
  refine (pick_any _ _ _ _ _ hrd (by omega) (by omega)).mono ?_
  rintro e w_p ⟨p, rfl, p_0, p_1, hrd_p, ho_p, hsz_p⟩
  have p_u := p_1 (by omega)
  have hlt_p := hrd_p.lt
  clear p_1
  go_wp2_with fail
  refine (pick_any _ _ _ _ _ hrd_p (by omega) (by omega)).mono ?_
  rintro e w_q ⟨q, rfl, q_0, q_1, hrd_q, ho_q, hsz_q⟩
  have q_u := q_1 (by omega)
  have hlt_q := hrd_q.lt
  clear q_1
  go_wp2_with fail
  refine (pick_any _ _ _ _ _ hrd_q (by omega) (by omega)).mono ?_
  rintro e w_r ⟨r, rfl, r_0, r_1, hrd_r, ho_r, hsz_r⟩
  have r_u := r_1 (by omega)
  have hlt_r := hrd_r.lt
  clear r_1
  by_cases hr : r = 0
  · subst hr
    go_wp2_with fail
    refine (pick_any _ _ _ _ _ hrd_r (by omega) (by omega)).mono ?_
    rintro e w_s ⟨s, rfl, s_0, s_1, hrd_s, ho_s, hsz_s⟩
    have s_u := s_1 (by omega)
    have hlt_s := hrd_s.lt
    clear s_1
    go_wp2
    refine bodyPost_ret (res4 rfl _ _) rfl ?_
    exact ⟨_, _, _, _, rfl, hb.trans ((((ho_p.trans ho_q).trans ho_r).trans ho_s).below (Nat.le_refl _) hb.size)⟩
  · have e0 : (r == 0) = false := by simpa using hr
    go_wp2_with fail
    refine (pick_any _ _ _ _ _ hrd_r (by omega) (by omega)).mono ?_
    rintro e w_s ⟨s, rfl, s_0, s_1, hrd_s, ho_s, hsz_s⟩
    have s_u := s_1 (by omega)
    have hlt_s := hrd_s.lt
    clear s_1
    go_wp2_with fail
    refine (pick_any _ _ _ _ _ hrd_s (by omega) (by omega)).mono ?_
    rintro e w_t ⟨t, rfl, t_0, t_1, hrd_t, ho_t, hsz_t⟩
    have t_u := t_1 (by omega)
    have hlt_t := hrd_t.lt
    clear t_1
    go_wp2
    refine bodyPost_ret (res4 rfl _ _) rfl ?_
    exact ⟨_, _, _, _, rfl, hb.trans (((((ho_p.trans ho_q).trans ho_r).trans ho_s).trans ho_t).below (Nat.le_refl _) hb.size)⟩

set_option maxHeartbeats 4000000 in
theorem iof_ok (wa ma wb mb : Int) (w : World) (hok : OfOk wa ma wb mb) :
    Calls Try.prog 23 #[.int .i64 wa, .int .i64 ma, .int .i64 wb, .int .i64 mb] w (ofGood wa ma (rateOf wa ma wb mb) w) := by
  obtain ⟨r0, r1⟩ := rate_bd hok.1
  have h := hok.1
  obtain ⟨h1, h2, h3, h4, h5, h6, h7, h8, h9, h10⟩ := id h
  have d1 : decide (0 ≤ wa) = true := by simpa using h1
  have d2 : decide (wa ≤ 999999) = true := by simpa using h2
  have d3 : decide (0 ≤ ma) = true := by simpa using h3
  have d4 : decide (ma ≤ 999999) = true := by simpa using h4
  have d6 : decide (wb ≤ 999999) = true := by simpa using h6
  have d8 : decide (mb ≤ 999999) = true := by simpa using h8
  have d9 : decide (0 ≤ wb) = true := by simpa using h5
  have d10 : decide (0 ≤ mb) = true := by simpa using h7
  have d11 : decide (wb - wa ≤ 0) = false := by simp; omega
  have d12 : decide (mb - ma < 0) = false := by simp; omega
  have hne : ¬ wb - wa = 0 := by omega
  have hc := (ofOk_clock h rfl).2 hok
  have HR : Hid (rateOf wa ma wb mb = 1000 * (mb - ma) / (wb - wa)) := rfl
  rw [HR.out] at r0 r1 hc
  clear hok
  go_enter Try.func23, Try.ntmps23
  go_wp2_with (first | (go_at_call 50; go_in) | (go_at_call 51; go_in) | (go_at_call 40; go_in))
  refine wp_region_cells [(w.heap.size + 1, 0, .int .i64 wa), (w.heap.size + 1 + 1, 0, .int .i64 wb), (w.heap.size + 1 + 1 + 1, 0, .int .i64 ma), (w.heap.size + 1 + 1 + 1 + 1, 0, .int .i64 mb)] (by kernel_rfl) (by kernel_rfl) ?_ ?_
  · simp only [List.forall_mem_cons]
    exact ⟨by go_simp, by go_simp, by go_simp, by go_simp, by simp⟩
  intro hcs
  simp only [List.forall_mem_cons] at hcs
  obtain ⟨dc0, dc1, dc2, dc3, -⟩ := hcs
  repeat (any_goals (first | go_big_quiet_step (first | (go_at_call 52; exact BW.calls (Nat.le_refl _) _ (wsince_any _ _ _ (by omega) (by omega))) | (go_at_call 53; exact BW.calls (Nat.le_refl _) _ (msince_any _ _ _ (by omega) (by omega)))) | quiet_step (first | (go_at_call 52; exact BW.calls (Nat.le_refl _) _ (wsince_any _ _ _ (by omega) (by omega))) | (go_at_call 53; exact BW.calls (Nat.le_refl _) _ (msince_any _ _ _ (by omega) (by omega))))))
  refine wpQuiet_nil ?_
  intro _ hw'
  obtain ⟨xw, hw''⟩ := hw'
  subst hw''
  have hbw := xw.2
  clear dc0 dc1 dc2 dc3
  generalize xw.1 = ww at hbw ⊢
  clear xw
  obtain ⟨kw, fw⟩ := bcell hbw
  have sw := hbw.size
  have hres : Bk ww w.heap.size 40 #[.int .i64 0, .int .i64 0, .int .i64 0] := Bk.below (by repeat (first | exact Bk.new _ _ _ | refine Bk.alloc ?_ _)) hbw (by simp; omega)
  have hB : Below w.heap.size w ww := (by repeat (first | exact Below.refl _ _ | assumption | refine Below.setCell ?_ (by first | omega | (simp; done) | (simp; omega)) _ | refine Below.alloc ?_ (by first | omega | (simp; done) | (simp; omega)) _ | refine Below.drew ?_ | refine Below.drewN' ?_ _ | refine Below.trans ?_ (Below.mono (by assumption) (by first | omega | (simp; done) | (simp; omega)))))
  clear kw fw sw hbw
  have hresl := hres.lt
  have g0 := hres.cell 0
  have g1 := hres.cell 1
  have g2 := hres.cell 2
  simp at g0 g1 g2
  go_wp2_with fail
  refine (cvalid_ok _ _ _ _ hc).mono ?_
  rintro e w9 ⟨rfl, hb9⟩
  have hres9 := (hres.alloc _).below hb9 (by simp; omega)
  have hk9 := (Bk.new ww 40 #[.int .i64 wa, .int .i64 ma, .int .i64 (1000 * (mb - ma) / (wb - wa))]).below hb9 (by simp)
  have hB9 : Below w.heap.size w w9 := (by repeat (first | exact Below.refl _ _ | assumption | refine Below.setCell ?_ (by first | omega | (simp; done) | (simp; omega)) _ | refine Below.alloc ?_ (by first | omega | (simp; done) | (simp; omega)) _ | refine Below.drew ?_ | refine Below.drewN' ?_ _ | refine Below.trans ?_ (Below.mono (by assumption) (by first | omega | (simp; done) | (simp; omega)))))
  clear hB hb9 hres g0 g1 g2
  have e0 := hres9.cell 0
  have e1 := hres9.cell 1
  have e2 := hres9.cell 2
  have f0 := hres9.frozen 0
  have f1 := hres9.frozen 1
  have f2 := hres9.frozen 2
  have k0 := hk9.cell 0
  have k1 := hk9.cell 1
  have k2 := hk9.cell 2
  simp at e0 e1 e2 k0 k1 k2
  go_wp2
  have hres5 := ((hres9.set_ 0 (.int .i64 wa)).set_ 1 (.int .i64 ma)).set_ 2 (.int .i64 (1000 * (mb - ma) / (wb - wa)))
  have t0 := hres5.cell 0
  have t1 := hres5.cell 1
  have t2 := hres5.cell 2
  simp at t0 t1 t2
  refine ⟨rfl, ?_⟩
  apply Exists.intro
  apply And.intro
  · simp [results, Try.results23, go_sem, t0, t1, t2]; exact rfl
  · exact ⟨by rw [HR.out], (by repeat (first | exact Below.refl _ _ | assumption | refine Below.setCell ?_ (by first | omega | (simp; done) | (simp; omega)) _ | refine Below.alloc ?_ (by first | omega | (simp; done) | (simp; omega)) _ | refine Below.drew ?_ | refine Below.drewN' ?_ _ | refine Below.trans ?_ (Below.mono (by assumption) (by first | omega | (simp; done) | (simp; omega)))))⟩
set_option maxHeartbeats 4000000 in
theorem iof_rate (wa ma wb mb : Int) (w : World) (h : TimesOk wa ma wb mb) (hok : ¬ OfOk wa ma wb mb) :
    Calls Try.prog 23 #[.int .i64 wa, .int .i64 ma, .int .i64 wb, .int .i64 mb] w (ofBad w) := by
  obtain ⟨r0, r1⟩ := rate_bd h
  obtain ⟨h1, h2, h3, h4, h5, h6, h7, h8, h9, h10⟩ := id h
  have d1 : decide (0 ≤ wa) = true := by simpa using h1
  have d2 : decide (wa ≤ 999999) = true := by simpa using h2
  have d3 : decide (0 ≤ ma) = true := by simpa using h3
  have d4 : decide (ma ≤ 999999) = true := by simpa using h4
  have d6 : decide (wb ≤ 999999) = true := by simpa using h6
  have d8 : decide (mb ≤ 999999) = true := by simpa using h8
  have d9 : decide (0 ≤ wb) = true := by simpa using h5
  have d10 : decide (0 ≤ mb) = true := by simpa using h7
  have d11 : decide (wb - wa ≤ 0) = false := by simp; omega
  have d12 : decide (mb - ma < 0) = false := by simp; omega
  have hne : ¬ wb - wa = 0 := by omega
  have hc := fun hh => hok ((ofOk_clock h rfl).1 hh)
  have HR : Hid (rateOf wa ma wb mb = 1000 * (mb - ma) / (wb - wa)) := rfl
  rw [HR.out] at r0 r1 hc
  clear hok
  go_enter Try.func23, Try.ntmps23
  go_wp2_with (first | (go_at_call 50; go_in) | (go_at_call 51; go_in) | (go_at_call 40; go_in))
  refine wp_region_cells [(w.heap.size + 1, 0, .int .i64 wa), (w.heap.size + 1 + 1, 0, .int .i64 wb), (w.heap.size + 1 + 1 + 1, 0, .int .i64 ma), (w.heap.size + 1 + 1 + 1 + 1, 0, .int .i64 mb)] (by kernel_rfl) (by kernel_rfl) ?_ ?_
  · simp only [List.forall_mem_cons]
    exact ⟨by go_simp, by go_simp, by go_simp, by go_simp, by simp⟩
  intro hcs
  simp only [List.forall_mem_cons] at hcs
  obtain ⟨dc0, dc1, dc2, dc3, -⟩ := hcs
  repeat (any_goals (first | go_big_quiet_step (first | (go_at_call 52; exact BW.calls (Nat.le_refl _) _ (wsince_any _ _ _ (by omega) (by omega))) | (go_at_call 53; exact BW.calls (Nat.le_refl _) _ (msince_any _ _ _ (by omega) (by omega)))) | quiet_step (first | (go_at_call 52; exact BW.calls (Nat.le_refl _) _ (wsince_any _ _ _ (by omega) (by omega))) | (go_at_call 53; exact BW.calls (Nat.le_refl _) _ (msince_any _ _ _ (by omega) (by omega))))))
  refine wpQuiet_nil ?_
  intro _ hw'
  obtain ⟨xw, hw''⟩ := hw'
  subst hw''
  have hbw := xw.2
  clear dc0 dc1 dc2 dc3
  generalize xw.1 = ww at hbw ⊢
  clear xw
  obtain ⟨kw, fw⟩ := bcell hbw
  have sw := hbw.size
  have hres : Bk ww w.heap.size 40 #[.int .i64 0, .int .i64 0, .int .i64 0] := Bk.below (by repeat (first | exact Bk.new _ _ _ | refine Bk.alloc ?_ _)) hbw (by simp; omega)
  have hB : Below w.heap.size w ww := (by repeat (first | exact Below.refl _ _ | assumption | refine Below.setCell ?_ (by first | omega | (simp; done) | (simp; omega)) _ | refine Below.alloc ?_ (by first | omega | (simp; done) | (simp; omega)) _ | refine Below.drew ?_ | refine Below.drewN' ?_ _ | refine Below.trans ?_ (Below.mono (by assumption) (by first | omega | (simp; done) | (simp; omega)))))
  clear kw fw sw hbw
  have hresl := hres.lt
  have g0 := hres.cell 0
  have g1 := hres.cell 1
  have g2 := hres.cell 2
  simp at g0 g1 g2
  go_wp2_with fail
  refine (cvalid_no _ _ _ _ hc).mono ?_
  rintro e w9 ⟨rfl, hb9⟩
  have hres9 := (hres.alloc _).below hb9 (by simp; omega)
  have hk9 := (Bk.new ww 40 #[.int .i64 wa, .int .i64 ma, .int .i64 (1000 * (mb - ma) / (wb - wa))]).below hb9 (by simp)
  have hB9 : Below w.heap.size w w9 := (by repeat (first | exact Below.refl _ _ | assumption | refine Below.setCell ?_ (by first | omega | (simp; done) | (simp; omega)) _ | refine Below.alloc ?_ (by first | omega | (simp; done) | (simp; omega)) _ | refine Below.drew ?_ | refine Below.drewN' ?_ _ | refine Below.trans ?_ (Below.mono (by assumption) (by first | omega | (simp; done) | (simp; omega)))))
  clear hB hb9 hres g0 g1 g2
  have e0 := hres9.cell 0
  have e1 := hres9.cell 1
  have e2 := hres9.cell 2
  have f0 := hres9.frozen 0
  have f1 := hres9.frozen 1
  have f2 := hres9.frozen 2
  have k0 := hk9.cell 0
  have k1 := hk9.cell 1
  have k2 := hk9.cell 2
  simp at e0 e1 e2 k0 k1 k2
  go_wp2
  have hres5 := ((hres9.set_ 0 (.int .i64 0)).set_ 1 (.int .i64 0)).set_ 2 (.int .i64 0)
  have t0 := hres5.cell 0
  have t1 := hres5.cell 1
  have t2 := hres5.cell 2
  simp at t0 t1 t2
  refine ⟨rfl, ?_⟩
  apply Exists.intro
  apply And.intro
  · simp [results, Try.results23, go_sem, t0, t1, t2]; exact rfl
  · exact ⟨rfl, (by repeat (first | exact Below.refl _ _ | assumption | refine Below.setCell ?_ (by first | omega | (simp; done) | (simp; omega)) _ | refine Below.alloc ?_ (by first | omega | (simp; done) | (simp; omega)) _ | refine Below.drew ?_ | refine Below.drewN' ?_ _ | refine Below.trans ?_ (Below.mono (by assumption) (by first | omega | (simp; done) | (simp; omega)))))⟩

set_option maxHeartbeats 8000000 in
theorem iof_range (wa ma wb mb : Int) (w : World) (h : ¬ (0 ≤ wa ∧ wa ≤ 999999 ∧ 0 ≤ wb ∧ wb ≤ 999999 ∧ 0 ≤ ma ∧ ma ≤ 999999 ∧ 0 ≤ mb ∧ mb ≤ 999999)) :
    Calls Try.prog 23 #[.int .i64 wa, .int .i64 ma, .int .i64 wb, .int .i64 mb] w (ofBad w) := by
  by_cases h0 : 0 ≤ wa
  · have d0 : decide (0 ≤ wa) = true := by simpa using h0
    by_cases h1 : wa ≤ 999999
    · have d1 : decide (wa ≤ 999999) = true := by simpa using h1
      by_cases h2 : 0 ≤ wb
      · have d2 : decide (0 ≤ wb) = true := by simpa using h2
        by_cases h3 : wb ≤ 999999
        · have d3 : decide (wb ≤ 999999) = true := by simpa using h3
          by_cases h4 : 0 ≤ ma
          · have d4 : decide (0 ≤ ma) = true := by simpa using h4
            by_cases h5 : ma ≤ 999999
            · have d5 : decide (ma ≤ 999999) = true := by simpa using h5
              by_cases h6 : 0 ≤ mb
              · have d6 : decide (0 ≤ mb) = true := by simpa using h6
                by_cases h7 : mb ≤ 999999
                · have d7 : decide (mb ≤ 999999) = true := by simpa using h7
                  exact (h ⟨h0, h1, h2, h3, h4, h5, h6, h7⟩).elim
                · have d7 : decide (mb ≤ 999999) = false := by simpa using h7
                  clear h
                  go_enter Try.func23, Try.ntmps23
                  go_wp2_with (first | (go_at_call 50; go_in) | (go_at_call 51; go_in) | (go_at_call 40; go_in))
                  refine ⟨rfl, ?_⟩
                  apply Exists.intro
                  apply And.intro
                  · simp [results, Try.results23, go_sem]; exact rfl
                  · exact ⟨rfl, (by repeat (first | exact Below.refl _ _ | assumption | refine Below.setCell ?_ (by first | omega | (simp; done) | (simp; omega)) _ | refine Below.alloc ?_ (by first | omega | (simp; done) | (simp; omega)) _ | refine Below.drew ?_ | refine Below.drewN' ?_ _ | refine Below.trans ?_ (Below.mono (by assumption) (by first | omega | (simp; done) | (simp; omega)))))⟩
              · have d6 : decide (0 ≤ mb) = false := by simpa using h6
                clear h
                go_enter Try.func23, Try.ntmps23
                go_wp2_with (first | (go_at_call 50; go_in) | (go_at_call 51; go_in) | (go_at_call 40; go_in))
                refine ⟨rfl, ?_⟩
                apply Exists.intro
                apply And.intro
                · simp [results, Try.results23, go_sem]; exact rfl
                · exact ⟨rfl, (by repeat (first | exact Below.refl _ _ | assumption | refine Below.setCell ?_ (by first | omega | (simp; done) | (simp; omega)) _ | refine Below.alloc ?_ (by first | omega | (simp; done) | (simp; omega)) _ | refine Below.drew ?_ | refine Below.drewN' ?_ _ | refine Below.trans ?_ (Below.mono (by assumption) (by first | omega | (simp; done) | (simp; omega)))))⟩
            · have d5 : decide (ma ≤ 999999) = false := by simpa using h5
              clear h
              go_enter Try.func23, Try.ntmps23
              go_wp2_with (first | (go_at_call 50; go_in) | (go_at_call 51; go_in) | (go_at_call 40; go_in))
              refine ⟨rfl, ?_⟩
              apply Exists.intro
              apply And.intro
              · simp [results, Try.results23, go_sem]; exact rfl
              · exact ⟨rfl, (by repeat (first | exact Below.refl _ _ | assumption | refine Below.setCell ?_ (by first | omega | (simp; done) | (simp; omega)) _ | refine Below.alloc ?_ (by first | omega | (simp; done) | (simp; omega)) _ | refine Below.drew ?_ | refine Below.drewN' ?_ _ | refine Below.trans ?_ (Below.mono (by assumption) (by first | omega | (simp; done) | (simp; omega)))))⟩
          · have d4 : decide (0 ≤ ma) = false := by simpa using h4
            clear h
            go_enter Try.func23, Try.ntmps23
            go_wp2_with (first | (go_at_call 50; go_in) | (go_at_call 51; go_in) | (go_at_call 40; go_in))
            refine ⟨rfl, ?_⟩
            apply Exists.intro
            apply And.intro
            · simp [results, Try.results23, go_sem]; exact rfl
            · exact ⟨rfl, (by repeat (first | exact Below.refl _ _ | assumption | refine Below.setCell ?_ (by first | omega | (simp; done) | (simp; omega)) _ | refine Below.alloc ?_ (by first | omega | (simp; done) | (simp; omega)) _ | refine Below.drew ?_ | refine Below.drewN' ?_ _ | refine Below.trans ?_ (Below.mono (by assumption) (by first | omega | (simp; done) | (simp; omega)))))⟩
        · have d3 : decide (wb ≤ 999999) = false := by simpa using h3
          clear h
          go_enter Try.func23, Try.ntmps23
          go_wp2_with (first | (go_at_call 50; go_in) | (go_at_call 51; go_in) | (go_at_call 40; go_in))
          refine ⟨rfl, ?_⟩
          apply Exists.intro
          apply And.intro
          · simp [results, Try.results23, go_sem]; exact rfl
          · exact ⟨rfl, (by repeat (first | exact Below.refl _ _ | assumption | refine Below.setCell ?_ (by first | omega | (simp; done) | (simp; omega)) _ | refine Below.alloc ?_ (by first | omega | (simp; done) | (simp; omega)) _ | refine Below.drew ?_ | refine Below.drewN' ?_ _ | refine Below.trans ?_ (Below.mono (by assumption) (by first | omega | (simp; done) | (simp; omega)))))⟩
      · have d2 : decide (0 ≤ wb) = false := by simpa using h2
        clear h
        go_enter Try.func23, Try.ntmps23
        go_wp2_with (first | (go_at_call 50; go_in) | (go_at_call 51; go_in) | (go_at_call 40; go_in))
        refine ⟨rfl, ?_⟩
        apply Exists.intro
        apply And.intro
        · simp [results, Try.results23, go_sem]; exact rfl
        · exact ⟨rfl, (by repeat (first | exact Below.refl _ _ | assumption | refine Below.setCell ?_ (by first | omega | (simp; done) | (simp; omega)) _ | refine Below.alloc ?_ (by first | omega | (simp; done) | (simp; omega)) _ | refine Below.drew ?_ | refine Below.drewN' ?_ _ | refine Below.trans ?_ (Below.mono (by assumption) (by first | omega | (simp; done) | (simp; omega)))))⟩
    · have d1 : decide (wa ≤ 999999) = false := by simpa using h1
      clear h
      go_enter Try.func23, Try.ntmps23
      go_wp2_with (first | (go_at_call 50; go_in) | (go_at_call 51; go_in) | (go_at_call 40; go_in))
      refine ⟨rfl, ?_⟩
      apply Exists.intro
      apply And.intro
      · simp [results, Try.results23, go_sem]; exact rfl
      · exact ⟨rfl, (by repeat (first | exact Below.refl _ _ | assumption | refine Below.setCell ?_ (by first | omega | (simp; done) | (simp; omega)) _ | refine Below.alloc ?_ (by first | omega | (simp; done) | (simp; omega)) _ | refine Below.drew ?_ | refine Below.drewN' ?_ _ | refine Below.trans ?_ (Below.mono (by assumption) (by first | omega | (simp; done) | (simp; omega)))))⟩
  · have d0 : decide (0 ≤ wa) = false := by simpa using h0
    clear h
    go_enter Try.func23, Try.ntmps23
    go_wp2_with (first | (go_at_call 50; go_in) | (go_at_call 51; go_in) | (go_at_call 40; go_in))
    refine ⟨rfl, ?_⟩
    apply Exists.intro
    apply And.intro
    · simp [results, Try.results23, go_sem]; exact rfl
    · exact ⟨rfl, (by repeat (first | exact Below.refl _ _ | assumption | refine Below.setCell ?_ (by first | omega | (simp; done) | (simp; omega)) _ | refine Below.alloc ?_ (by first | omega | (simp; done) | (simp; omega)) _ | refine Below.drew ?_ | refine Below.drewN' ?_ _ | refine Below.trans ?_ (Below.mono (by assumption) (by first | omega | (simp; done) | (simp; omega)))))⟩
end Go.Proofs.Ytambjhapnhmmmaa
