/-
  Scripts: the program's machine: restart, tell, wide.
  Conditions: the state is valid (scOk) and lies at the machine's block; the table of powers of ten holds what it held.
-/
import Derived.Test.YthbkmnladaneaaaGreatDoorScM
import Derived.BigQuiet
namespace Go.Proofs.YthbkmnladaneaaaGreatDoor
open Go.RowKit
set_option linter.unusedVariables false
set_option linter.unusedSimpArgs false
set_option maxRecDepth 100000

set_option maxHeartbeats 2000000 in
theorem mrestart_any (s : Sc) (g : Nat) (v0 : Value) (w : World) (h : MQ s g w) (hok : scOk s) :
    Calls Tryz.prog 60 #[.pointer (some ⟨g, 0, none⟩), v0] w (MRet (newS s, wOk) g w) := by
  obtain ⟨A, c, hk, hpk, hc, hcm, hrt⟩ := h
  have hl := scOk_len hok
  have hring := new_ring s
  have HV := Lib.hid (inew_any s A c w hpk hok)
  unfold NewRet rgV rdV at HV
  have HE := Lib.hid (fun (w5 W6 : World) (rb : Nat) (A5 : Option Addr) (c5 : Nat) => (@mret_end (newS s) wOk g rb w w5 W6 A5 c5))
  unfold mqC at HE
  rw [hring.1, hring.2] at HE
  generalize MRet (newS s, wOk) g w = R at *
  generalize (newS s).nx = nx2 at *
  generalize (newS s).lo = lo2 at *
  generalize (newS s).wt = wt2 at *
  clear hring hok
  unfold mqC at hk
  generalize hnn : s.xs.length = n at *
  generalize s.co = co at *
  generalize s.nx = nx at *
  generalize s.lo = lo at *
  generalize s.wt = wt at *
  (try clear hk_c0); (try clear hk_f0)
  (try clear hk_c1); (try clear hk_f1)
  (try clear hk_c2); (try clear hk_f2)
  (try clear hk_c3); (try clear hk_f3)
  (try clear hk_c4); (try clear hk_f4)
  (try clear hk_c5); (try clear hk_f5)
  (try clear hk_lt)
  have hk_lt := hk.lt; (try simp only [World.size_alloc] at hk_lt)
  have hk_c0 := hk.cell 0; have hk_f0 := hk.frozen 0
  have hk_c1 := hk.cell 1; have hk_f1 := hk.frozen 1
  have hk_c2 := hk.cell 2; have hk_f2 := hk.frozen 2
  have hk_c3 := hk.cell 3; have hk_f3 := hk.frozen 3
  have hk_c4 := hk.cell 4; have hk_f4 := hk.frozen 4
  have hk_c5 := hk.cell 5; have hk_f5 := hk.frozen 5
  simp only [List.getElem?_toArray, List.getElem?_cons_zero, List.getElem?_cons_succ] at hk_c0 hk_c1 hk_c2 hk_c3 hk_c4 hk_c5
  go_enter Tryz.func60, Tryz.ntmps60
  go_wp2_with (go_at_call 78; refine HV.out.mono ?_; rintro e w5 ⟨rfl, hb5⟩; have hK6 := hk.below hb5 hk.lt; have hK6_lt := hK6.lt; have hK6_c0 := hK6.cell 0; have hK6_f0 := hK6.frozen 0; have hK6_c1 := hK6.cell 1; have hK6_f1 := hK6.frozen 1; have hK6_c2 := hK6.cell 2; have hK6_f2 := hK6.frozen 2; have hK6_c3 := hK6.cell 3; have hK6_f3 := hK6.frozen 3; have hK6_c4 := hK6.cell 4; have hK6_f4 := hK6.frozen 4; have hK6_c5 := hK6.cell 5; have hK6_f5 := hK6.frozen 5; simp only [List.getElem?_toArray, List.getElem?_cons_zero, List.getElem?_cons_succ] at hK6_c0 hK6_c1 hK6_c2 hK6_c3 hK6_c4 hK6_c5)
  have hp5 : Pks w5 w5.heap.size A n s.xs := (hpk.below hb5).more hb5.size
  exact HE.out w5 _ w5.heap.size A c hb5 hb5.size hp5 hc hcm (hrt.below hb5) (fun hn k o e => pks_off hp5 hK6 hn k o e) (fun hn k o e => Nat.ne_of_lt (pks_lt hp5 hn k o e)) (by repeat (first | with_reducible exact But.refl _ _ | with_reducible refine But.setCell ?_ (Or.inl (Or.inl rfl)) _ | with_reducible refine But.setCell ?_ (Or.inl (Or.inr rfl)) _ | with_reducible refine But.setCell ?_ (Or.inr (Nat.le_refl _)) _ | with_reducible refine But.alloc ?_ _ | with_reducible refine But.drewN ?_ _ | with_reducible refine But.drew ?_)) ((((hK6.set_ 3 (.int .i64 nx2)).set_ 4 (.int .i64 lo2)).set_ 5 (.bool wt2)).alloc _)

set_option maxHeartbeats 4000000 in
theorem mtell_any (s : Sc) (g : Nat) (v0 : Value) (w : World) (h : MQ s g w) (ht : TB w) (hok : scOk s) :
    Calls Tryz.prog 61 #[.pointer (some ⟨g, 0, none⟩), v0] w (MRet (s, wRingB ++ dI (oldI s) ++ [32] ++ dI s.co) g w) := by
  have hmq := h
  obtain ⟨A, c, hk, hpk, hc, hcm, hrt⟩ := h
  have hl := scOk_len hok
  have HV := Lib.hid (fun (w' : World) (hw : Below w.heap.size w w') => iold_any s A c w' ((hpk.below hw).more hw.size) hok)
  unfold rgV at HV
  have ho0 : 0 ≤ oldI s ∧ oldI s ≤ 999999 := by unfold oldI; omega
  have HD1 := Lib.hid (fun (w' : World) (hw : Below w.heap.size w w') => itoa_any (oldI s) w' (ht.below hw) (by omega) (by omega))
  have HD2 := Lib.hid (fun (w' : World) (hw : Below w.heap.size w w') => itoa_any s.co w' (ht.below hw) (by omega) (by omega))
  have hl1 := dI_len7 (oldI s)
  have hl2 := dI_len7 s.co
  have HE := Lib.hid (fun (W6 : World) (hb : Below w.heap.size w W6) => mret_same (o := wRingB ++ dI (oldI s) ++ [32] ++ dI s.co) hmq hb)
  generalize dI (oldI s) = l1 at *
  generalize dI s.co = l2 at *
  obtain ⟨m1, hm1⟩ : ∃ m1, wRingB ++ l1 = m1 := ⟨_, rfl⟩
  have ap1 := app_str wRingB l1 m1 hm1
  have hk1 : m1.length ≤ 12 := by rw [← hm1]; simp [wRingB]; omega
  rw [hm1] at HE ⊢
  obtain ⟨m2, hm2⟩ : ∃ m2, m1 ++ [32] = m2 := ⟨_, rfl⟩
  have ap2 := app_str m1 [32] m2 hm2
  have hk2 : m2.length ≤ 13 := by rw [← hm2]; simp; omega
  rw [hm2] at HE ⊢
  obtain ⟨m3, hm3⟩ : ∃ m3, m2 ++ l2 = m3 := ⟨_, rfl⟩
  have ap3 := app_str m2 l2 m3 hm3
  rw [hm3] at HE ⊢
  simp only [wRingB] at ap1
  have hq1 : ¬ 9223372036854775807 < 5 + l1.length := by omega
  have hq2 : ¬ 9223372036854775807 < m1.length + 1 := by omega
  have hq3 : ¬ 9223372036854775807 < m2.length + l2.length := by omega
  generalize MRet (s, m3) g w = R at *
  generalize oldI s = ol at *
  clear hmq hok hm1 hm2 hm3
  unfold mqC at hk
  generalize hnn : s.xs.length = n at *
  generalize s.co = co at *
  generalize s.nx = nx at *
  generalize s.lo = lo at *
  generalize s.wt = wt at *
  (try clear hk_c0); (try clear hk_f0)
  (try clear hk_c1); (try clear hk_f1)
  (try clear hk_c2); (try clear hk_f2)
  (try clear hk_c3); (try clear hk_f3)
  (try clear hk_c4); (try clear hk_f4)
  (try clear hk_c5); (try clear hk_f5)
  (try clear hk_lt)
  have hk_lt := hk.lt; (try simp only [World.size_alloc] at hk_lt)
  have hk_c0 := hk.cell 0; have hk_f0 := hk.frozen 0
  have hk_c1 := hk.cell 1; have hk_f1 := hk.frozen 1
  have hk_c2 := hk.cell 2; have hk_f2 := hk.frozen 2
  have hk_c3 := hk.cell 3; have hk_f3 := hk.frozen 3
  have hk_c4 := hk.cell 4; have hk_f4 := hk.frozen 4
  have hk_c5 := hk.cell 5; have hk_f5 := hk.frozen 5
  simp only [List.getElem?_toArray, List.getElem?_cons_zero, List.getElem?_cons_succ] at hk_c0 hk_c1 hk_c2 hk_c3 hk_c4 hk_c5
  go_enter Tryz.func61, Tryz.ntmps61
  go_wp2_with fail
  refine wp_region_cells [(g, 0, .int .i64 4), (g, 1, .int .i64 co), (g, 2, .slice A n c)] (by kernel_rfl) (by kernel_rfl) ?_ ?_
  · simp only [List.forall_mem_cons]
    exact ⟨by go_simp, by go_simp, by go_simp, by simp⟩
  intro hcs
  simp only [List.forall_mem_cons] at hcs
  obtain ⟨dc0, dc1, dc2, -⟩ := hcs
  repeat (any_goals (first | go_big_quiet_step (first | (go_at_call 79; with_reducible exact BW.calls (Nat.le_refl _) _ (HV.out _ (Subtype.property _))) | (go_at_call 34; first | with_reducible exact BW.calls (Nat.le_refl _) _ (HD1.out _ (Subtype.property _)) | with_reducible exact BW.calls (Nat.le_refl _) _ (HD2.out _ (Subtype.property _)))) | quiet_step (first | (go_at_call 79; with_reducible exact BW.calls (Nat.le_refl _) _ (HV.out _ (Subtype.property _))) | (go_at_call 34; first | with_reducible exact BW.calls (Nat.le_refl _) _ (HD1.out _ (Subtype.property _)) | with_reducible exact BW.calls (Nat.le_refl _) _ (HD2.out _ (Subtype.property _))))))
  refine wpQuiet_nil ?_
  intro _ hw'
  obtain ⟨xw, hw''⟩ := hw'
  subst hw''
  have hbw := xw.2
  clear dc0 dc1 dc2
  generalize xw.1 = ww at hbw ⊢
  clear xw
  obtain ⟨kw, fw⟩ := bcell hbw
  have sw := hbw.size
  go_wp2
  exact HE.out _ hbw

set_option maxHeartbeats 2000000 in
theorem mwide_any (s : Sc) (a b : Int) (g : Nat) (An : Option Addr) (cn : Nat) (w : World) (h : MQ s g w) (ht : TB w) (hn : Ints w w.heap.size An 2 [a, b]) :
    Calls Tryz.prog 62 #[.pointer (some ⟨g, 0, none⟩), .slice An 2 cn] w (MRet (s, wideA a b) g w) := by
  obtain ⟨bn, on, rfl, hbn, hcn⟩ := hn.at_ (by omega)
  have cn0 : w.cell? ⟨bn, on, none⟩ = some (.int .i64 a) := hcn 0 (by omega)
  have cn1 : w.cell? ⟨bn, on + 1, none⟩ = some (.int .i64 b) := hcn 1 (by omega)
  clear hcn hn
  have HE := Lib.hid (fun (W6 : World) (hb : Below w.heap.size w W6) => mret_same (o := wideA a b) h hb)
  generalize hR : MRet (s, wideA a b) g w = R at *
  clear hR
  by_cases hw : WideOk a b
  · have HV := Lib.hid (fun w => (impl_wide_ok hw w).mono fun e w' h' => (⟨h'.1, h'.2.symm⟩ : e = .returned (.tuple #[.int .i64 (wideNum a b), .bool true]) ∧ w' = w))
    have hz := hw.2
    have e : wideA a b = wWideB ++ dI (wideNum a b) := by
      unfold wideA
      unfold WideOk WideArgs at hw
      rw [if_pos (by omega)]
    rw [e] at HE
    have HD := Lib.hid (fun (w' : World) (hw : Below w.heap.size w w') => itoa_any (wideNum a b) w' (ht.below hw) (by omega) (by omega))
    have hl7 := dI_len7 (wideNum a b)
    generalize dI (wideNum a b) = l at *
    obtain ⟨m1, hm1⟩ : ∃ m1, wWideB ++ l = m1 := ⟨_, rfl⟩
    have ap1 := app_str wWideB l m1 hm1
    have hq1 : ¬ 9223372036854775807 < 5 + l.length := by omega
    simp only [wWideB] at ap1
    rw [hm1] at HE
    clear hm1 hw e
    generalize wideNum a b = z at *
    go_enter Tryz.func62, Tryz.ntmps62
    go_wp2_with fail
    go_quiet ((go_at_call 80; exact Calls.quiet_of_same (HV.out _)))
    go_wp2_with (go_at_call 34; refine (HD.out _ (Below.drewN' (Below.refl _ _) _)).mono ?_; rintro e w2 ⟨rfl, hb2⟩)
    exact HE.out _ ((Below.drewN' (Below.refl _ _) _).trans (hb2.mono (Nat.le_refl _)))
  · have HV := Lib.hid (fun w => (impl_wide_no hw w).mono fun e w' h' => (⟨h'.1, h'.2.symm⟩ : e = .returned (.tuple #[.int .i64 0, .bool false]) ∧ w' = w))
    have e : wideA a b = wNo := by
      unfold wideA
      unfold WideOk WideArgs at hw
      rw [if_neg (by omega)]
    rw [e] at HE
    clear hw e
    go_enter Tryz.func62, Tryz.ntmps62
    go_wp2_with fail
    go_quiet ((go_at_call 80; exact Calls.quiet_of_same (HV.out _)))
    go_wp2
    exact HE.out _ (Below.drewN' (Below.refl _ _) _)

end Go.Proofs.YthbkmnladaneaaaGreatDoor
