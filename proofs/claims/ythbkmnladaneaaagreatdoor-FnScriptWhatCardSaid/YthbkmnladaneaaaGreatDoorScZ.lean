/-
  Scripts: a line, in the reference: ring, wide, and what is none.
  Conditions: the state is valid (scOk), its packets lie at the world; the line has at most 500 bytes.
-/
import Derived.Test.YthbkmnladaneaaaGreatDoorScY
namespace Go.Proofs.YthbkmnladaneaaaGreatDoor
open Go.RowKit
set_option linter.unusedVariables false
set_option linter.unusedSimpArgs false
set_option maxRecDepth 100000

set_option maxHeartbeats 2000000 in
theorem sline_ring (s : Sc) (A : Option Addr) (c : Nat) (t : ByteArray) (w : World) (N0 : Nat) (h0 : Pks w N0 A s.xs.length s.xs) (hN0 : N0 ≤ w.heap.size) (hc : s.xs.length ≤ c) (hcm : c ≤ maxLen) (hok : scOk s) (ht : t.size ≤ 500) (hsp : splitL 32 t.data.toList = [wRing]) :
    Calls Tryz.prog 26 #[stV s A c, .string t] w (StRet N0 (s, wRingB ++ dI (oldI s) ++ [32] ++ dI s.co) w) := by
  have h := h0.more hN0
  have hl := scOk_len hok
  have HC := Lib.hid (fun w => scut_any t w ht)
  unfold CutRet at HC
  rw [hsp] at HC
  have hx := splitL_one hsp
  have e1 : (t.toList == [114, 101, 97, 100]) = false := tl_no hx (by decide)
  have e2 : (t.toList == [110, 101, 119]) = false := tl_no hx (by decide)
  have e3 : (t.toList == [114, 105, 110, 103]) = true := by rw [tl_eq hx]; rfl
  have HV := Lib.hid (fun (w' : World) (hw : Below w.heap.size w w') => sold_any s A c w' ((h.below hw).more hw.size) hok)
  unfold rgV at HV
  have HF := Lib.hid (stRet_of (s' := s) (o := wRingB ++ dI (oldI s) ++ [32] ++ dI s.co) rfl rfl hc hcm h0 hN0)
  have ho0 : 0 ≤ oldI s ∧ oldI s ≤ 999999 := by unfold oldI; omega
  have HD1 := Lib.hid (fun w => sdec_any (oldI s) w (by omega) (by omega))
  have HD2 := Lib.hid (fun w => sdec_any s.co w (by omega) (by omega))
  unfold DecRet at HD1 HD2
  have hl1 := dI_len7 (oldI s)
  have hl2 := dI_len7 s.co
  generalize dI (oldI s) = l1 at *
  generalize dI s.co = l2 at *
  obtain ⟨m1, hm1⟩ : ∃ m1, wRingB ++ l1 = m1 := ⟨_, rfl⟩
  have ap1 := app_str wRingB l1 m1 hm1
  have hk1 : m1.length ≤ 12 := by rw [← hm1]; simp [wRingB]; omega
  rw [hm1] at HF ⊢
  obtain ⟨m2, hm2⟩ : ∃ m2, m1 ++ [32] = m2 := ⟨_, rfl⟩
  have ap2 := app_str m1 [32] m2 hm2
  have hk2 : m2.length ≤ 13 := by rw [← hm2]; simp; omega
  rw [hm2] at HF ⊢
  obtain ⟨m3, hm3⟩ : ∃ m3, m2 ++ l2 = m3 := ⟨_, rfl⟩
  have ap3 := app_str m2 l2 m3 hm3
  have hk3 : m3.length ≤ 20 := by rw [← hm3]; simp; omega
  rw [hm3] at HF ⊢
  obtain ⟨m4, hm4⟩ : ∃ m4, m3 ++ [10] = m4 := ⟨_, rfl⟩
  have ap4 := app_str m3 [10] m4 hm4
  rw [hm4] at HF
  simp only [wRingB] at ap1
  have hq1 : ¬ 9223372036854775807 < 5 + l1.length := by omega
  have hq2 : ¬ 9223372036854775807 < m1.length + 1 := by omega
  have hq3 : ¬ 9223372036854775807 < m2.length + l2.length := by omega
  have hq4 : ¬ 9223372036854775807 < m3.length + 1 := by omega
  generalize StRet N0 (s, m3) w = R at *
  generalize oldI s = ol at *
  clear h h0 hok hsp hm1 hm2 hm3 hm4
  unfold stV at *
  generalize s.xs.length = n at *
  generalize s.co = co at *
  generalize s.nx = nx at *
  generalize s.lo = lo at *
  generalize s.wt = wt at *
  have hS := (Bk.new w 51 #[.int .i64 4, .int .i64 co, .slice A n c, .int .i64 nx, .int .i64 lo, .bool wt]).alloc (.cells #[.int .i64 0, .int .i64 0, .slice none 0 0, .int .i64 0, .int .i64 0, .bool false] 51)
  have hO := bk_new1 w (.cells #[.int .i64 4, .int .i64 co, .slice A n c, .int .i64 nx, .int .i64 lo, .bool wt] 51) 51 #[.int .i64 0, .int .i64 0, .slice none 0 0, .int .i64 0, .int .i64 0, .bool false]
  have hBa : Below w.heap.size w ((w.alloc (.cells #[.int .i64 4, .int .i64 co, .slice A n c, .int .i64 nx, .int .i64 lo, .bool wt] 51)).alloc (.cells #[.int .i64 0, .int .i64 0, .slice none 0 0, .int .i64 0, .int .i64 0, .bool false] 51)) := (by repeat (first | exact Below.refl _ _ | assumption | refine Below.setCell ?_ (by first | omega | (simp; done) | (simp; omega)) _ | refine Below.alloc ?_ (by first | omega | (simp; done) | (simp; omega)) _ | refine Below.drew ?_ | refine Below.drewN' ?_ _ | refine Below.trans ?_ (Below.mono (by assumption) (by first | omega | (simp; done) | (simp; omega)))))
  go_enter Tryz.func26, Tryz.ntmps26
  go_wp2_with fail
  refine (HC.out _).mono ?_
  rintro e w1 ⟨v, rfl, hown, hb1⟩
  obtain ⟨Aw, cw, rfl, h1, h2, h3⟩ := own_shape hown
  clear hown
  obtain ⟨bw, ow, rfl, hbw, hcw⟩ := h3.2 (by simp)
  have cw0 := hcw 0 _ rfl
  simp only [Nat.add_zero] at cw0
  unfold sV at cw0
  clear hcw
  simp only [wRing] at cw0
  clear hx
  simp only [List.length_cons, List.length_nil, Nat.zero_add] at *
  replace hBa := hBa.trans (hb1.mono hBa.size)
  replace hS := hS.below hb1 (by first | omega | exact hS.lt | (simp; done) | (simp; omega))
  (try clear hS_c0); (try clear hS_f0)
  (try clear hS_c1); (try clear hS_f1)
  (try clear hS_c2); (try clear hS_f2)
  (try clear hS_c3); (try clear hS_f3)
  (try clear hS_c4); (try clear hS_f4)
  (try clear hS_c5); (try clear hS_f5)
  (try clear hS_lt)
  have hS_lt := hS.lt; (try simp only [World.size_alloc] at hS_lt)
  have hS_c0 := hS.cell 0; have hS_f0 := hS.frozen 0
  have hS_c1 := hS.cell 1; have hS_f1 := hS.frozen 1
  have hS_c2 := hS.cell 2; have hS_f2 := hS.frozen 2
  have hS_c3 := hS.cell 3; have hS_f3 := hS.frozen 3
  have hS_c4 := hS.cell 4; have hS_f4 := hS.frozen 4
  have hS_c5 := hS.cell 5; have hS_f5 := hS.frozen 5
  simp only [List.getElem?_toArray, List.getElem?_cons_zero, List.getElem?_cons_succ] at hS_c0 hS_c1 hS_c2 hS_c3 hS_c4 hS_c5
  replace hO := hO.below hb1 (by first | omega | exact hO.lt | (simp; done) | (simp; omega))
  (try clear hO_c0); (try clear hO_f0)
  (try clear hO_c1); (try clear hO_f1)
  (try clear hO_c2); (try clear hO_f2)
  (try clear hO_c3); (try clear hO_f3)
  (try clear hO_c4); (try clear hO_f4)
  (try clear hO_c5); (try clear hO_f5)
  (try clear hO_lt)
  have hO_lt := hO.lt; (try simp only [World.size_alloc] at hO_lt)
  have hO_c0 := hO.cell 0; have hO_f0 := hO.frozen 0
  have hO_c1 := hO.cell 1; have hO_f1 := hO.frozen 1
  have hO_c2 := hO.cell 2; have hO_f2 := hO.frozen 2
  have hO_c3 := hO.cell 3; have hO_f3 := hO.frozen 3
  have hO_c4 := hO.cell 4; have hO_f4 := hO.frozen 4
  have hO_c5 := hO.cell 5; have hO_f5 := hO.frozen 5
  simp only [List.getElem?_toArray, List.getElem?_cons_zero, List.getElem?_cons_succ] at hO_c0 hO_c1 hO_c2 hO_c3 hO_c4 hO_c5
  clear hb1
  have hO_lt1 := hO.lt
  go_wp2_with fail
  have hB5 := hBa.drew
  have hS5 := hS.drew
  have hO5 := hO.drew
  clear hBa hS hO
  (try clear hS5_c0); (try clear hS5_f0)
  (try clear hS5_c1); (try clear hS5_f1)
  (try clear hS5_c2); (try clear hS5_f2)
  (try clear hS5_c3); (try clear hS5_f3)
  (try clear hS5_c4); (try clear hS5_f4)
  (try clear hS5_c5); (try clear hS5_f5)
  (try clear hS5_lt)
  have hS5_lt := hS5.lt; (try simp only [World.size_alloc] at hS5_lt)
  have hS5_c0 := hS5.cell 0; have hS5_f0 := hS5.frozen 0
  have hS5_c1 := hS5.cell 1; have hS5_f1 := hS5.frozen 1
  have hS5_c2 := hS5.cell 2; have hS5_f2 := hS5.frozen 2
  have hS5_c3 := hS5.cell 3; have hS5_f3 := hS5.frozen 3
  have hS5_c4 := hS5.cell 4; have hS5_f4 := hS5.frozen 4
  have hS5_c5 := hS5.cell 5; have hS5_f5 := hS5.frozen 5
  simp only [List.getElem?_toArray, List.getElem?_cons_zero, List.getElem?_cons_succ] at hS5_c0 hS5_c1 hS5_c2 hS5_c3 hS5_c4 hS5_c5
  (try clear hO5_c0); (try clear hO5_f0)
  (try clear hO5_c1); (try clear hO5_f1)
  (try clear hO5_c2); (try clear hO5_f2)
  (try clear hO5_c3); (try clear hO5_f3)
  (try clear hO5_c4); (try clear hO5_f4)
  (try clear hO5_c5); (try clear hO5_f5)
  (try clear hO5_lt)
  have hO5_lt := hO5.lt; (try simp only [World.size_alloc] at hO5_lt)
  have hO5_c0 := hO5.cell 0; have hO5_f0 := hO5.frozen 0
  have hO5_c1 := hO5.cell 1; have hO5_f1 := hO5.frozen 1
  have hO5_c2 := hO5.cell 2; have hO5_f2 := hO5.frozen 2
  have hO5_c3 := hO5.cell 3; have hO5_f3 := hO5.frozen 3
  have hO5_c4 := hO5.cell 4; have hO5_f4 := hO5.frozen 4
  have hO5_c5 := hO5.cell 5; have hO5_f5 := hO5.frozen 5
  simp only [List.getElem?_toArray, List.getElem?_cons_zero, List.getElem?_cons_succ] at hO5_c0 hO5_c1 hO5_c2 hO5_c3 hO5_c4 hO5_c5
  go_region_held3 (fun w' => w'.cell? ⟨w.heap.size, 0, none⟩ = some (.int .i64 4) ∧ w'.cell? ⟨w.heap.size, 1, none⟩ = some (.int .i64 co) ∧ w'.cell? ⟨w.heap.size, 2, none⟩ = some (.slice A n c) ∧ w'.cell? ⟨w.heap.size, 3, none⟩ = some (.int .i64 nx) ∧ w'.cell? ⟨w.heap.size, 4, none⟩ = some (.int .i64 lo) ∧ w'.cell? ⟨w.heap.size, 5, none⟩ = some (.bool wt)) (first | with_reducible exact ⟨hS5_c0, hS5_c1, hS5_c2, hS5_c3, hS5_c4, hS5_c5⟩ | with_reducible exact ⟨hS6_c0, hS6_c1, hS6_c2, hS6_c3, hS6_c4, hS6_c5⟩ | with_reducible exact ⟨hS7_c0, hS7_c1, hS7_c2, hS7_c3, hS7_c4, hS7_c5⟩ | with_reducible exact ⟨hS8_c0, hS8_c1, hS8_c2, hS8_c3, hS8_c4, hS8_c5⟩ | exact ⟨by (repeat (rw [World.cell?_setCell_other _ _ _ _ (fun e => by injection e; omega)])); with_reducible assumption, by (repeat (rw [World.cell?_setCell_other _ _ _ _ (fun e => by injection e; omega)])); with_reducible assumption, by (repeat (rw [World.cell?_setCell_other _ _ _ _ (fun e => by injection e; omega)])); with_reducible assumption, by (repeat (rw [World.cell?_setCell_other _ _ _ _ (fun e => by injection e; omega)])); with_reducible assumption, by (repeat (rw [World.cell?_setCell_other _ _ _ _ (fun e => by injection e; omega)])); with_reducible assumption, by (repeat (rw [World.cell?_setCell_other _ _ _ _ (fun e => by injection e; omega)])); with_reducible assumption⟩)
    ((first
      | (go_at_call 39
         refine (HV.out _ hB5).mono ?_
         rintro e w6 ⟨rfl, hb6⟩
         have hB6 := hB5.trans (hb6.mono hB5.size)
         have hS6 := hS5.below hb6 hS5.lt
         have hO6 := hO5.below hb6 hO5.lt
         (try clear hS6_c0); (try clear hS6_f0)
         (try clear hS6_c1); (try clear hS6_f1)
         (try clear hS6_c2); (try clear hS6_f2)
         (try clear hS6_c3); (try clear hS6_f3)
         (try clear hS6_c4); (try clear hS6_f4)
         (try clear hS6_c5); (try clear hS6_f5)
         (try clear hS6_lt)
         have hS6_lt := hS6.lt; (try simp only [World.size_alloc] at hS6_lt)
         have hS6_c0 := hS6.cell 0; have hS6_f0 := hS6.frozen 0
         have hS6_c1 := hS6.cell 1; have hS6_f1 := hS6.frozen 1
         have hS6_c2 := hS6.cell 2; have hS6_f2 := hS6.frozen 2
         have hS6_c3 := hS6.cell 3; have hS6_f3 := hS6.frozen 3
         have hS6_c4 := hS6.cell 4; have hS6_f4 := hS6.frozen 4
         have hS6_c5 := hS6.cell 5; have hS6_f5 := hS6.frozen 5
         simp only [List.getElem?_toArray, List.getElem?_cons_zero, List.getElem?_cons_succ] at hS6_c0 hS6_c1 hS6_c2 hS6_c3 hS6_c4 hS6_c5
         (try clear hO6_c0); (try clear hO6_f0)
         (try clear hO6_c1); (try clear hO6_f1)
         (try clear hO6_c2); (try clear hO6_f2)
         (try clear hO6_c3); (try clear hO6_f3)
         (try clear hO6_c4); (try clear hO6_f4)
         (try clear hO6_c5); (try clear hO6_f5)
         (try clear hO6_lt)
         have hO6_lt := hO6.lt; (try simp only [World.size_alloc] at hO6_lt)
         have hO6_c0 := hO6.cell 0; have hO6_f0 := hO6.frozen 0
         have hO6_c1 := hO6.cell 1; have hO6_f1 := hO6.frozen 1
         have hO6_c2 := hO6.cell 2; have hO6_f2 := hO6.frozen 2
         have hO6_c3 := hO6.cell 3; have hO6_f3 := hO6.frozen 3
         have hO6_c4 := hO6.cell 4; have hO6_f4 := hO6.frozen 4
         have hO6_c5 := hO6.cell 5; have hO6_f5 := hO6.frozen 5
         simp only [List.getElem?_toArray, List.getElem?_cons_zero, List.getElem?_cons_succ] at hO6_c0 hO6_c1 hO6_c2 hO6_c3 hO6_c4 hO6_c5
         clear hb6)
      | (go_at_call 27
         with_reducible refine (HD1.out _).mono ?_
         rintro e w7 ⟨rfl, hb7⟩
         have hB7 := hB6.trans (hb7.mono hB6.size)
         have hS7 := hS6.below hb7 hS6.lt
         have hO7 := hO6.below hb7 hO6.lt
         (try clear hS7_c0); (try clear hS7_f0)
         (try clear hS7_c1); (try clear hS7_f1)
         (try clear hS7_c2); (try clear hS7_f2)
         (try clear hS7_c3); (try clear hS7_f3)
         (try clear hS7_c4); (try clear hS7_f4)
         (try clear hS7_c5); (try clear hS7_f5)
         (try clear hS7_lt)
         have hS7_lt := hS7.lt; (try simp only [World.size_alloc] at hS7_lt)
         have hS7_c0 := hS7.cell 0; have hS7_f0 := hS7.frozen 0
         have hS7_c1 := hS7.cell 1; have hS7_f1 := hS7.frozen 1
         have hS7_c2 := hS7.cell 2; have hS7_f2 := hS7.frozen 2
         have hS7_c3 := hS7.cell 3; have hS7_f3 := hS7.frozen 3
         have hS7_c4 := hS7.cell 4; have hS7_f4 := hS7.frozen 4
         have hS7_c5 := hS7.cell 5; have hS7_f5 := hS7.frozen 5
         simp only [List.getElem?_toArray, List.getElem?_cons_zero, List.getElem?_cons_succ] at hS7_c0 hS7_c1 hS7_c2 hS7_c3 hS7_c4 hS7_c5
         (try clear hO7_c0); (try clear hO7_f0)
         (try clear hO7_c1); (try clear hO7_f1)
         (try clear hO7_c2); (try clear hO7_f2)
         (try clear hO7_c3); (try clear hO7_f3)
         (try clear hO7_c4); (try clear hO7_f4)
         (try clear hO7_c5); (try clear hO7_f5)
         (try clear hO7_lt)
         have hO7_lt := hO7.lt; (try simp only [World.size_alloc] at hO7_lt)
         have hO7_c0 := hO7.cell 0; have hO7_f0 := hO7.frozen 0
         have hO7_c1 := hO7.cell 1; have hO7_f1 := hO7.frozen 1
         have hO7_c2 := hO7.cell 2; have hO7_f2 := hO7.frozen 2
         have hO7_c3 := hO7.cell 3; have hO7_f3 := hO7.frozen 3
         have hO7_c4 := hO7.cell 4; have hO7_f4 := hO7.frozen 4
         have hO7_c5 := hO7.cell 5; have hO7_f5 := hO7.frozen 5
         simp only [List.getElem?_toArray, List.getElem?_cons_zero, List.getElem?_cons_succ] at hO7_c0 hO7_c1 hO7_c2 hO7_c3 hO7_c4 hO7_c5
         clear hb7)
      | (go_at_call 27
         with_reducible refine (HD2.out _).mono ?_
         rintro e w8 ⟨rfl, hb8⟩
         have hB8 := hB7.trans (hb8.mono hB7.size)
         have hS8 := hS7.below hb8 hS7.lt
         have hO8 := hO7.below hb8 hO7.lt
         (try clear hS8_c0); (try clear hS8_f0)
         (try clear hS8_c1); (try clear hS8_f1)
         (try clear hS8_c2); (try clear hS8_f2)
         (try clear hS8_c3); (try clear hS8_f3)
         (try clear hS8_c4); (try clear hS8_f4)
         (try clear hS8_c5); (try clear hS8_f5)
         (try clear hS8_lt)
         have hS8_lt := hS8.lt; (try simp only [World.size_alloc] at hS8_lt)
         have hS8_c0 := hS8.cell 0; have hS8_f0 := hS8.frozen 0
         have hS8_c1 := hS8.cell 1; have hS8_f1 := hS8.frozen 1
         have hS8_c2 := hS8.cell 2; have hS8_f2 := hS8.frozen 2
         have hS8_c3 := hS8.cell 3; have hS8_f3 := hS8.frozen 3
         have hS8_c4 := hS8.cell 4; have hS8_f4 := hS8.frozen 4
         have hS8_c5 := hS8.cell 5; have hS8_f5 := hS8.frozen 5
         simp only [List.getElem?_toArray, List.getElem?_cons_zero, List.getElem?_cons_succ] at hS8_c0 hS8_c1 hS8_c2 hS8_c3 hS8_c4 hS8_c5
         (try clear hO8_c0); (try clear hO8_f0)
         (try clear hO8_c1); (try clear hO8_f1)
         (try clear hO8_c2); (try clear hO8_f2)
         (try clear hO8_c3); (try clear hO8_f3)
         (try clear hO8_c4); (try clear hO8_f4)
         (try clear hO8_c5); (try clear hO8_f5)
         (try clear hO8_lt)
         have hO8_lt := hO8.lt; (try simp only [World.size_alloc] at hO8_lt)
         have hO8_c0 := hO8.cell 0; have hO8_f0 := hO8.frozen 0
         have hO8_c1 := hO8.cell 1; have hO8_f1 := hO8.frozen 1
         have hO8_c2 := hO8.cell 2; have hO8_f2 := hO8.frozen 2
         have hO8_c3 := hO8.cell 3; have hO8_f3 := hO8.frozen 3
         have hO8_c4 := hO8.cell 4; have hO8_f4 := hO8.frozen 4
         have hO8_c5 := hO8.cell 5; have hO8_f5 := hO8.frozen 5
         simp only [List.getElem?_toArray, List.getElem?_cons_zero, List.getElem?_cons_succ] at hO8_c0 hO8_c1 hO8_c2 hO8_c3 hO8_c4 hO8_c5
         clear hb8)))
  all_goals
    go_wp2
    refine ⟨rfl, ?_⟩
    apply Exists.intro
    apply And.intro
    · simp [results, Tryz.results26, go_sem, hO8_c0, hO8_c1, hO8_c2, hO8_c3, hO8_c4, hO8_c5, hO8_lt]; exact rfl
    · exact HF.out _ (by repeat (first | with_reducible exact hB8 | with_reducible exact hB8.size | with_reducible exact le1 w | with_reducible exact le2 w | with_reducible exact le3 w | with_reducible refine Below.setCell ?_ ?_ _ | with_reducible refine Below.alloc ?_ ?_ _ | with_reducible refine Below.drewN' ?_ _ | with_reducible refine Below.drew ?_ | with_reducible exact Nat.le_refl _ | with_reducible refine le_set ?_ | with_reducible refine le_all ?_))

set_option maxHeartbeats 2000000 in
theorem sline_wide (s : Sc) (A : Option Addr) (c : Nat) (t : ByteArray) (w : World) (N0 : Nat) (h0 : Pks w N0 A s.xs.length s.xs) (hN0 : N0 ≤ w.heap.size) (hc : s.xs.length ≤ c) (hcm : c ≤ maxLen) (hok : scOk s) (ht : t.size ≤ 500) (a b : List UInt8) (hsp : splitL 32 t.data.toList = [wWide, a, b]) (ha : a.length ≤ 500) (hb : b.length ≤ 500) :
    Calls Tryz.prog 26 #[stV s A c, .string t] w (StRet N0 (s, wideW a b) w) := by
  have h := h0.more hN0
  have hl := scOk_len hok
  have HC := Lib.hid (fun w => scut_any t w ht)
  unfold CutRet at HC
  rw [hsp] at HC
  have hn1 : (splitL 32 t.data.toList).length ≠ 1 := by rw [hsp]; simp
  have e1 : (t.toList == [114, 101, 97, 100]) = false := tl_ne (by decide) hn1
  have e2 : (t.toList == [110, 101, 119]) = false := tl_ne (by decide) hn1
  have e3 : (t.toList == [114, 105, 110, 103]) = false := tl_ne (by decide) hn1
  have HV := Lib.hid (fun (Aw : Option Addr) (cw : Nat) (w' : World) (hwd : Sl w' w'.heap.size 1 Aw 3 [sV wWide, sV a, sV b]) => swide_any (sV wWide) a b Aw cw w' hwd ha hb)
  unfold StrRet at HV
  have HF := Lib.hid (stRet_of (s' := s) (o := wideW a b) rfl rfl hc hcm h0 hN0)
  generalize StRet N0 (s, wideW a b) w = R at *
  generalize wideW a b ++ [10] = o3 at *
  clear h h0 hok hsp hn1
  unfold stV at *
  generalize s.xs.length = n at *
  generalize s.co = co at *
  generalize s.nx = nx at *
  generalize s.lo = lo at *
  generalize s.wt = wt at *
  have hS := (Bk.new w 51 #[.int .i64 4, .int .i64 co, .slice A n c, .int .i64 nx, .int .i64 lo, .bool wt]).alloc (.cells #[.int .i64 0, .int .i64 0, .slice none 0 0, .int .i64 0, .int .i64 0, .bool false] 51)
  have hO := bk_new1 w (.cells #[.int .i64 4, .int .i64 co, .slice A n c, .int .i64 nx, .int .i64 lo, .bool wt] 51) 51 #[.int .i64 0, .int .i64 0, .slice none 0 0, .int .i64 0, .int .i64 0, .bool false]
  have hBa : Below w.heap.size w ((w.alloc (.cells #[.int .i64 4, .int .i64 co, .slice A n c, .int .i64 nx, .int .i64 lo, .bool wt] 51)).alloc (.cells #[.int .i64 0, .int .i64 0, .slice none 0 0, .int .i64 0, .int .i64 0, .bool false] 51)) := (by repeat (first | exact Below.refl _ _ | assumption | refine Below.setCell ?_ (by first | omega | (simp; done) | (simp; omega)) _ | refine Below.alloc ?_ (by first | omega | (simp; done) | (simp; omega)) _ | refine Below.drew ?_ | refine Below.drewN' ?_ _ | refine Below.trans ?_ (Below.mono (by assumption) (by first | omega | (simp; done) | (simp; omega)))))
  go_enter Tryz.func26, Tryz.ntmps26
  go_wp2_with fail
  refine (HC.out _).mono ?_
  rintro e w1 ⟨v, rfl, hown, hb1⟩
  obtain ⟨Aw, cw, rfl, h1, h2, h3⟩ := own_shape hown
  clear hown
  have HW := Lib.hid (show Sl w1 w1.heap.size 1 Aw 3 [sV wWide, sV a, sV b] from h3)
  obtain ⟨bw, ow, rfl, hbw, hcw⟩ := h3.2 (by simp)
  have cw0 := hcw 0 _ rfl
  simp only [Nat.add_zero] at cw0
  unfold sV at cw0
  clear hcw
  simp only [wWide] at cw0
  simp only [List.length_cons, List.length_nil, Nat.zero_add] at *
  replace hBa := hBa.trans (hb1.mono hBa.size)
  replace hS := hS.below hb1 (by first | omega | exact hS.lt | (simp; done) | (simp; omega))
  (try clear hS_c0); (try clear hS_f0)
  (try clear hS_c1); (try clear hS_f1)
  (try clear hS_c2); (try clear hS_f2)
  (try clear hS_c3); (try clear hS_f3)
  (try clear hS_c4); (try clear hS_f4)
  (try clear hS_c5); (try clear hS_f5)
  (try clear hS_lt)
  have hS_lt := hS.lt; (try simp only [World.size_alloc] at hS_lt)
  have hS_c0 := hS.cell 0; have hS_f0 := hS.frozen 0
  have hS_c1 := hS.cell 1; have hS_f1 := hS.frozen 1
  have hS_c2 := hS.cell 2; have hS_f2 := hS.frozen 2
  have hS_c3 := hS.cell 3; have hS_f3 := hS.frozen 3
  have hS_c4 := hS.cell 4; have hS_f4 := hS.frozen 4
  have hS_c5 := hS.cell 5; have hS_f5 := hS.frozen 5
  simp only [List.getElem?_toArray, List.getElem?_cons_zero, List.getElem?_cons_succ] at hS_c0 hS_c1 hS_c2 hS_c3 hS_c4 hS_c5
  replace hO := hO.below hb1 (by first | omega | exact hO.lt | (simp; done) | (simp; omega))
  (try clear hO_c0); (try clear hO_f0)
  (try clear hO_c1); (try clear hO_f1)
  (try clear hO_c2); (try clear hO_f2)
  (try clear hO_c3); (try clear hO_f3)
  (try clear hO_c4); (try clear hO_f4)
  (try clear hO_c5); (try clear hO_f5)
  (try clear hO_lt)
  have hO_lt := hO.lt; (try simp only [World.size_alloc] at hO_lt)
  have hO_c0 := hO.cell 0; have hO_f0 := hO.frozen 0
  have hO_c1 := hO.cell 1; have hO_f1 := hO.frozen 1
  have hO_c2 := hO.cell 2; have hO_f2 := hO.frozen 2
  have hO_c3 := hO.cell 3; have hO_f3 := hO.frozen 3
  have hO_c4 := hO.cell 4; have hO_f4 := hO.frozen 4
  have hO_c5 := hO.cell 5; have hO_f5 := hO.frozen 5
  simp only [List.getElem?_toArray, List.getElem?_cons_zero, List.getElem?_cons_succ] at hO_c0 hO_c1 hO_c2 hO_c3 hO_c4 hO_c5
  clear hb1
  have hO_lt1 := hO.lt
  go_wp2_with fail
  have hB5 := hBa.drew
  have hS5 := hS.drew
  have hO5 := hO.drew
  clear hBa hS hO
  (try clear hS5_c0); (try clear hS5_f0)
  (try clear hS5_c1); (try clear hS5_f1)
  (try clear hS5_c2); (try clear hS5_f2)
  (try clear hS5_c3); (try clear hS5_f3)
  (try clear hS5_c4); (try clear hS5_f4)
  (try clear hS5_c5); (try clear hS5_f5)
  (try clear hS5_lt)
  have hS5_lt := hS5.lt; (try simp only [World.size_alloc] at hS5_lt)
  have hS5_c0 := hS5.cell 0; have hS5_f0 := hS5.frozen 0
  have hS5_c1 := hS5.cell 1; have hS5_f1 := hS5.frozen 1
  have hS5_c2 := hS5.cell 2; have hS5_f2 := hS5.frozen 2
  have hS5_c3 := hS5.cell 3; have hS5_f3 := hS5.frozen 3
  have hS5_c4 := hS5.cell 4; have hS5_f4 := hS5.frozen 4
  have hS5_c5 := hS5.cell 5; have hS5_f5 := hS5.frozen 5
  simp only [List.getElem?_toArray, List.getElem?_cons_zero, List.getElem?_cons_succ] at hS5_c0 hS5_c1 hS5_c2 hS5_c3 hS5_c4 hS5_c5
  (try clear hO5_c0); (try clear hO5_f0)
  (try clear hO5_c1); (try clear hO5_f1)
  (try clear hO5_c2); (try clear hO5_f2)
  (try clear hO5_c3); (try clear hO5_f3)
  (try clear hO5_c4); (try clear hO5_f4)
  (try clear hO5_c5); (try clear hO5_f5)
  (try clear hO5_lt)
  have hO5_lt := hO5.lt; (try simp only [World.size_alloc] at hO5_lt)
  have hO5_c0 := hO5.cell 0; have hO5_f0 := hO5.frozen 0
  have hO5_c1 := hO5.cell 1; have hO5_f1 := hO5.frozen 1
  have hO5_c2 := hO5.cell 2; have hO5_f2 := hO5.frozen 2
  have hO5_c3 := hO5.cell 3; have hO5_f3 := hO5.frozen 3
  have hO5_c4 := hO5.cell 4; have hO5_f4 := hO5.frozen 4
  have hO5_c5 := hO5.cell 5; have hO5_f5 := hO5.frozen 5
  simp only [List.getElem?_toArray, List.getElem?_cons_zero, List.getElem?_cons_succ] at hO5_c0 hO5_c1 hO5_c2 hO5_c3 hO5_c4 hO5_c5
  have HW5 := Lib.hid (show Sl w1.drew w1.drew.heap.size 1 _ 3 [sV wWide, sV a, sV b] from HW.out)
  go_region_held3 (fun w' => w'.cell? ⟨w.heap.size, 0, none⟩ = some (.int .i64 4) ∧ w'.cell? ⟨w.heap.size, 1, none⟩ = some (.int .i64 co) ∧ w'.cell? ⟨w.heap.size, 2, none⟩ = some (.slice A n c) ∧ w'.cell? ⟨w.heap.size, 3, none⟩ = some (.int .i64 nx) ∧ w'.cell? ⟨w.heap.size, 4, none⟩ = some (.int .i64 lo) ∧ w'.cell? ⟨w.heap.size, 5, none⟩ = some (.bool wt)) (first | with_reducible exact ⟨hS5_c0, hS5_c1, hS5_c2, hS5_c3, hS5_c4, hS5_c5⟩ | with_reducible exact ⟨hS6_c0, hS6_c1, hS6_c2, hS6_c3, hS6_c4, hS6_c5⟩ | exact ⟨by (repeat (rw [World.cell?_setCell_other _ _ _ _ (fun e => by injection e; omega)])); with_reducible assumption, by (repeat (rw [World.cell?_setCell_other _ _ _ _ (fun e => by injection e; omega)])); with_reducible assumption, by (repeat (rw [World.cell?_setCell_other _ _ _ _ (fun e => by injection e; omega)])); with_reducible assumption, by (repeat (rw [World.cell?_setCell_other _ _ _ _ (fun e => by injection e; omega)])); with_reducible assumption, by (repeat (rw [World.cell?_setCell_other _ _ _ _ (fun e => by injection e; omega)])); with_reducible assumption, by (repeat (rw [World.cell?_setCell_other _ _ _ _ (fun e => by injection e; omega)])); with_reducible assumption⟩)
    ((first
      | (go_at_call 40
         refine (HV.out _ _ _ HW5.out).mono ?_
         rintro e w6 ⟨rfl, hb6⟩
         have hB6 := hB5.trans (hb6.mono hB5.size)
         have hS6 := hS5.below hb6 hS5.lt
         have hO6 := hO5.below hb6 hO5.lt
         (try clear hS6_c0); (try clear hS6_f0)
         (try clear hS6_c1); (try clear hS6_f1)
         (try clear hS6_c2); (try clear hS6_f2)
         (try clear hS6_c3); (try clear hS6_f3)
         (try clear hS6_c4); (try clear hS6_f4)
         (try clear hS6_c5); (try clear hS6_f5)
         (try clear hS6_lt)
         have hS6_lt := hS6.lt; (try simp only [World.size_alloc] at hS6_lt)
         have hS6_c0 := hS6.cell 0; have hS6_f0 := hS6.frozen 0
         have hS6_c1 := hS6.cell 1; have hS6_f1 := hS6.frozen 1
         have hS6_c2 := hS6.cell 2; have hS6_f2 := hS6.frozen 2
         have hS6_c3 := hS6.cell 3; have hS6_f3 := hS6.frozen 3
         have hS6_c4 := hS6.cell 4; have hS6_f4 := hS6.frozen 4
         have hS6_c5 := hS6.cell 5; have hS6_f5 := hS6.frozen 5
         simp only [List.getElem?_toArray, List.getElem?_cons_zero, List.getElem?_cons_succ] at hS6_c0 hS6_c1 hS6_c2 hS6_c3 hS6_c4 hS6_c5
         (try clear hO6_c0); (try clear hO6_f0)
         (try clear hO6_c1); (try clear hO6_f1)
         (try clear hO6_c2); (try clear hO6_f2)
         (try clear hO6_c3); (try clear hO6_f3)
         (try clear hO6_c4); (try clear hO6_f4)
         (try clear hO6_c5); (try clear hO6_f5)
         (try clear hO6_lt)
         have hO6_lt := hO6.lt; (try simp only [World.size_alloc] at hO6_lt)
         have hO6_c0 := hO6.cell 0; have hO6_f0 := hO6.frozen 0
         have hO6_c1 := hO6.cell 1; have hO6_f1 := hO6.frozen 1
         have hO6_c2 := hO6.cell 2; have hO6_f2 := hO6.frozen 2
         have hO6_c3 := hO6.cell 3; have hO6_f3 := hO6.frozen 3
         have hO6_c4 := hO6.cell 4; have hO6_f4 := hO6.frozen 4
         have hO6_c5 := hO6.cell 5; have hO6_f5 := hO6.frozen 5
         simp only [List.getElem?_toArray, List.getElem?_cons_zero, List.getElem?_cons_succ] at hO6_c0 hO6_c1 hO6_c2 hO6_c3 hO6_c4 hO6_c5
         clear hb6)))
  all_goals
    go_wp2
    refine ⟨rfl, ?_⟩
    apply Exists.intro
    apply And.intro
    · simp [results, Tryz.results26, go_sem, hO6_c0, hO6_c1, hO6_c2, hO6_c3, hO6_c4, hO6_c5, hO6_lt]; exact rfl
    · exact HF.out _ (by repeat (first | with_reducible exact hB6 | with_reducible exact hB6.size | with_reducible exact le1 w | with_reducible exact le2 w | with_reducible exact le3 w | with_reducible refine Below.setCell ?_ ?_ _ | with_reducible refine Below.alloc ?_ ?_ _ | with_reducible refine Below.drewN' ?_ _ | with_reducible refine Below.drew ?_ | with_reducible exact Nat.le_refl _ | with_reducible refine le_set ?_ | with_reducible refine le_all ?_))

set_option maxHeartbeats 2000000 in
theorem sline_what3 (s : Sc) (A : Option Addr) (c : Nat) (t : ByteArray) (w : World) (N0 : Nat) (h0 : Pks w N0 A s.xs.length s.xs) (hN0 : N0 ≤ w.heap.size) (hc : s.xs.length ≤ c) (hcm : c ≤ maxLen) (hok : scOk s) (ht : t.size ≤ 500) (x a b : List UInt8) (hsp : splitL 32 t.data.toList = [x, a, b]) (n1 : x ≠ wKey) (n2 : x ≠ wPut) (n3 : x ≠ wWide) :
    Calls Tryz.prog 26 #[stV s A c, .string t] w (StRet N0 (s, wWhat) w) := by
  have h := h0.more hN0
  have hl := scOk_len hok
  have HC := Lib.hid (fun w => scut_any t w ht)
  unfold CutRet at HC
  rw [hsp] at HC
  have hn1 : (splitL 32 t.data.toList).length ≠ 1 := by rw [hsp]; simp
  have e1 : (t.toList == [114, 101, 97, 100]) = false := tl_ne (by decide) hn1
  have e2 : (t.toList == [110, 101, 119]) = false := tl_ne (by decide) hn1
  have e3 : (t.toList == [114, 105, 110, 103]) = false := tl_ne (by decide) hn1
  have f1 : (x == [107, 101, 121]) = false := by rw [beq_eq_false_iff_ne]; exact n1
  have f2 : (x == [112, 117, 116]) = false := by rw [beq_eq_false_iff_ne]; exact n2
  have f3 : (x == [119, 105, 100, 101]) = false := by rw [beq_eq_false_iff_ne]; exact n3
  have HF := Lib.hid (stRet_of (s' := s) (o := wWhat) rfl rfl hc hcm h0 hN0)
  generalize StRet N0 (s, wWhat) w = R at *
  clear h h0 hok
  unfold stV at *
  generalize s.xs.length = n at *
  generalize s.co = co at *
  generalize s.nx = nx at *
  generalize s.lo = lo at *
  generalize s.wt = wt at *
  have hS := (Bk.new w 51 #[.int .i64 4, .int .i64 co, .slice A n c, .int .i64 nx, .int .i64 lo, .bool wt]).alloc (.cells #[.int .i64 0, .int .i64 0, .slice none 0 0, .int .i64 0, .int .i64 0, .bool false] 51)
  have hO := bk_new1 w (.cells #[.int .i64 4, .int .i64 co, .slice A n c, .int .i64 nx, .int .i64 lo, .bool wt] 51) 51 #[.int .i64 0, .int .i64 0, .slice none 0 0, .int .i64 0, .int .i64 0, .bool false]
  have hBa : Below w.heap.size w ((w.alloc (.cells #[.int .i64 4, .int .i64 co, .slice A n c, .int .i64 nx, .int .i64 lo, .bool wt] 51)).alloc (.cells #[.int .i64 0, .int .i64 0, .slice none 0 0, .int .i64 0, .int .i64 0, .bool false] 51)) := (by repeat (first | exact Below.refl _ _ | assumption | refine Below.setCell ?_ (by first | omega | (simp; done) | (simp; omega)) _ | refine Below.alloc ?_ (by first | omega | (simp; done) | (simp; omega)) _ | refine Below.drew ?_ | refine Below.drewN' ?_ _ | refine Below.trans ?_ (Below.mono (by assumption) (by first | omega | (simp; done) | (simp; omega)))))
  go_enter Tryz.func26, Tryz.ntmps26
  go_wp2_with fail
  refine (HC.out _).mono ?_
  rintro e w1 ⟨v, rfl, hown, hb1⟩
  obtain ⟨Aw, cw, rfl, h1, h2, h3⟩ := own_shape hown
  clear hown
  obtain ⟨bw, ow, rfl, hbw, hcw⟩ := h3.2 (by simp)
  have cw0 := hcw 0 _ rfl
  simp only [Nat.add_zero] at cw0
  unfold sV at cw0
  clear hcw
  clear n1 n2 n3 hsp
  simp only [List.length_cons, List.length_nil, Nat.zero_add] at *
  replace hBa := hBa.trans (hb1.mono hBa.size)
  replace hS := hS.below hb1 (by first | omega | exact hS.lt | (simp; done) | (simp; omega))
  (try clear hS_c0); (try clear hS_f0)
  (try clear hS_c1); (try clear hS_f1)
  (try clear hS_c2); (try clear hS_f2)
  (try clear hS_c3); (try clear hS_f3)
  (try clear hS_c4); (try clear hS_f4)
  (try clear hS_c5); (try clear hS_f5)
  (try clear hS_lt)
  have hS_lt := hS.lt; (try simp only [World.size_alloc] at hS_lt)
  have hS_c0 := hS.cell 0; have hS_f0 := hS.frozen 0
  have hS_c1 := hS.cell 1; have hS_f1 := hS.frozen 1
  have hS_c2 := hS.cell 2; have hS_f2 := hS.frozen 2
  have hS_c3 := hS.cell 3; have hS_f3 := hS.frozen 3
  have hS_c4 := hS.cell 4; have hS_f4 := hS.frozen 4
  have hS_c5 := hS.cell 5; have hS_f5 := hS.frozen 5
  simp only [List.getElem?_toArray, List.getElem?_cons_zero, List.getElem?_cons_succ] at hS_c0 hS_c1 hS_c2 hS_c3 hS_c4 hS_c5
  replace hO := hO.below hb1 (by first | omega | exact hO.lt | (simp; done) | (simp; omega))
  (try clear hO_c0); (try clear hO_f0)
  (try clear hO_c1); (try clear hO_f1)
  (try clear hO_c2); (try clear hO_f2)
  (try clear hO_c3); (try clear hO_f3)
  (try clear hO_c4); (try clear hO_f4)
  (try clear hO_c5); (try clear hO_f5)
  (try clear hO_lt)
  have hO_lt := hO.lt; (try simp only [World.size_alloc] at hO_lt)
  have hO_c0 := hO.cell 0; have hO_f0 := hO.frozen 0
  have hO_c1 := hO.cell 1; have hO_f1 := hO.frozen 1
  have hO_c2 := hO.cell 2; have hO_f2 := hO.frozen 2
  have hO_c3 := hO.cell 3; have hO_f3 := hO.frozen 3
  have hO_c4 := hO.cell 4; have hO_f4 := hO.frozen 4
  have hO_c5 := hO.cell 5; have hO_f5 := hO.frozen 5
  simp only [List.getElem?_toArray, List.getElem?_cons_zero, List.getElem?_cons_succ] at hO_c0 hO_c1 hO_c2 hO_c3 hO_c4 hO_c5
  clear hb1
  have hO_lt1 := hO.lt
  go_wp2_with fail
  all_goals
    refine ⟨rfl, ?_⟩
    apply Exists.intro
    apply And.intro
    · simp [results, Tryz.results26, go_sem, hO_c0, hO_c1, hO_c2, hO_c3, hO_c4, hO_c5, hO_lt]; exact rfl
    · exact HF.out _ (by repeat (first | with_reducible exact hBa | with_reducible exact hBa.size | with_reducible exact le1 w | with_reducible exact le2 w | with_reducible exact le3 w | with_reducible refine Below.setCell ?_ ?_ _ | with_reducible refine Below.alloc ?_ ?_ _ | with_reducible refine Below.drewN' ?_ _ | with_reducible refine Below.drew ?_ | with_reducible exact Nat.le_refl _ | with_reducible refine le_set ?_ | with_reducible refine le_all ?_))

set_option maxHeartbeats 2000000 in
theorem sline_whato (s : Sc) (A : Option Addr) (c : Nat) (t : ByteArray) (w : World) (N0 : Nat) (h0 : Pks w N0 A s.xs.length s.xs) (hN0 : N0 ≤ w.heap.size) (hc : s.xs.length ≤ c) (hcm : c ≤ maxLen) (hok : scOk s) (ht : t.size ≤ 500) (x : List UInt8) (xs : List (List UInt8)) (hsp : splitL 32 t.data.toList = x :: xs) (k0 : xs.length ≠ 0) (k2 : xs.length ≠ 2) :
    Calls Tryz.prog 26 #[stV s A c, .string t] w (StRet N0 (s, wWhat) w) := by
  have h := h0.more hN0
  have hl := scOk_len hok
  have HC := Lib.hid (fun w => scut_any t w ht)
  unfold CutRet at HC
  rw [hsp] at HC
  have hn1 : (splitL 32 t.data.toList).length ≠ 1 := by rw [hsp]; simp; intro e; rw [e] at k0; exact k0 rfl
  have e1 : (t.toList == [114, 101, 97, 100]) = false := tl_ne (by decide) hn1
  have e2 : (t.toList == [110, 101, 119]) = false := tl_ne (by decide) hn1
  have e3 : (t.toList == [114, 105, 110, 103]) = false := tl_ne (by decide) hn1
  have HF := Lib.hid (stRet_of (s' := s) (o := wWhat) rfl rfl hc hcm h0 hN0)
  generalize StRet N0 (s, wWhat) w = R at *
  clear h h0 hok
  obtain ⟨m, hm⟩ : ∃ m, xs.length + 1 = m := ⟨_, rfl⟩
  have f0 : ((m : Int) == 3) = false := by rw [beq_eq_false_iff_ne]; omega
  have f00 : (m == 3) = false := by rw [beq_eq_false_iff_ne]; omega
  have fm : (0 : Int) < (m : Int) := by omega
  have hm0 : 0 < m := by omega
  unfold stV at *
  generalize s.xs.length = n at *
  generalize s.co = co at *
  generalize s.nx = nx at *
  generalize s.lo = lo at *
  generalize s.wt = wt at *
  have hS := (Bk.new w 51 #[.int .i64 4, .int .i64 co, .slice A n c, .int .i64 nx, .int .i64 lo, .bool wt]).alloc (.cells #[.int .i64 0, .int .i64 0, .slice none 0 0, .int .i64 0, .int .i64 0, .bool false] 51)
  have hO := bk_new1 w (.cells #[.int .i64 4, .int .i64 co, .slice A n c, .int .i64 nx, .int .i64 lo, .bool wt] 51) 51 #[.int .i64 0, .int .i64 0, .slice none 0 0, .int .i64 0, .int .i64 0, .bool false]
  have hBa : Below w.heap.size w ((w.alloc (.cells #[.int .i64 4, .int .i64 co, .slice A n c, .int .i64 nx, .int .i64 lo, .bool wt] 51)).alloc (.cells #[.int .i64 0, .int .i64 0, .slice none 0 0, .int .i64 0, .int .i64 0, .bool false] 51)) := (by repeat (first | exact Below.refl _ _ | assumption | refine Below.setCell ?_ (by first | omega | (simp; done) | (simp; omega)) _ | refine Below.alloc ?_ (by first | omega | (simp; done) | (simp; omega)) _ | refine Below.drew ?_ | refine Below.drewN' ?_ _ | refine Below.trans ?_ (Below.mono (by assumption) (by first | omega | (simp; done) | (simp; omega)))))
  go_enter Tryz.func26, Tryz.ntmps26
  go_wp2_with fail
  refine (HC.out _).mono ?_
  rintro e w1 ⟨v, rfl, hown, hb1⟩
  obtain ⟨Aw, cw, rfl, h1, h2, h3⟩ := own_shape hown
  clear hown
  obtain ⟨bw, ow, rfl, hbw, hcw⟩ := h3.2 (by simp)
  have cw0 := hcw 0 _ rfl
  simp only [Nat.add_zero] at cw0
  unfold sV at cw0
  clear hcw
  clear hsp
  simp only [List.length_cons, List.length_nil, Nat.zero_add] at *
  replace hBa := hBa.trans (hb1.mono hBa.size)
  replace hS := hS.below hb1 (by first | omega | exact hS.lt | (simp; done) | (simp; omega))
  (try clear hS_c0); (try clear hS_f0)
  (try clear hS_c1); (try clear hS_f1)
  (try clear hS_c2); (try clear hS_f2)
  (try clear hS_c3); (try clear hS_f3)
  (try clear hS_c4); (try clear hS_f4)
  (try clear hS_c5); (try clear hS_f5)
  (try clear hS_lt)
  have hS_lt := hS.lt; (try simp only [World.size_alloc] at hS_lt)
  have hS_c0 := hS.cell 0; have hS_f0 := hS.frozen 0
  have hS_c1 := hS.cell 1; have hS_f1 := hS.frozen 1
  have hS_c2 := hS.cell 2; have hS_f2 := hS.frozen 2
  have hS_c3 := hS.cell 3; have hS_f3 := hS.frozen 3
  have hS_c4 := hS.cell 4; have hS_f4 := hS.frozen 4
  have hS_c5 := hS.cell 5; have hS_f5 := hS.frozen 5
  simp only [List.getElem?_toArray, List.getElem?_cons_zero, List.getElem?_cons_succ] at hS_c0 hS_c1 hS_c2 hS_c3 hS_c4 hS_c5
  replace hO := hO.below hb1 (by first | omega | exact hO.lt | (simp; done) | (simp; omega))
  (try clear hO_c0); (try clear hO_f0)
  (try clear hO_c1); (try clear hO_f1)
  (try clear hO_c2); (try clear hO_f2)
  (try clear hO_c3); (try clear hO_f3)
  (try clear hO_c4); (try clear hO_f4)
  (try clear hO_c5); (try clear hO_f5)
  (try clear hO_lt)
  have hO_lt := hO.lt; (try simp only [World.size_alloc] at hO_lt)
  have hO_c0 := hO.cell 0; have hO_f0 := hO.frozen 0
  have hO_c1 := hO.cell 1; have hO_f1 := hO.frozen 1
  have hO_c2 := hO.cell 2; have hO_f2 := hO.frozen 2
  have hO_c3 := hO.cell 3; have hO_f3 := hO.frozen 3
  have hO_c4 := hO.cell 4; have hO_f4 := hO.frozen 4
  have hO_c5 := hO.cell 5; have hO_f5 := hO.frozen 5
  simp only [List.getElem?_toArray, List.getElem?_cons_zero, List.getElem?_cons_succ] at hO_c0 hO_c1 hO_c2 hO_c3 hO_c4 hO_c5
  clear hb1
  have hO_lt1 := hO.lt
  simp only [hm] at *
  go_wp2_with fail
  all_goals
    refine ⟨rfl, ?_⟩
    apply Exists.intro
    apply And.intro
    · simp [results, Tryz.results26, go_sem, hO_c0, hO_c1, hO_c2, hO_c3, hO_c4, hO_c5, hO_lt]; exact rfl
    · exact HF.out _ (by repeat (first | with_reducible exact hBa | with_reducible exact hBa.size | with_reducible exact le1 w | with_reducible exact le2 w | with_reducible exact le3 w | with_reducible refine Below.setCell ?_ ?_ _ | with_reducible refine Below.alloc ?_ ?_ _ | with_reducible refine Below.drewN' ?_ _ | with_reducible refine Below.drew ?_ | with_reducible exact Nat.le_refl _ | with_reducible refine le_set ?_ | with_reducible refine le_all ?_))

theorem splitL_mem {c : UInt8} : ∀ {l : List UInt8} {x : List UInt8}, x ∈ splitL c l → x.length ≤ l.length
  | [], x, h => by
    simp [splitL] at h
    simp [h]
  | b :: l, x, h => by
    unfold splitL at h
    split at h
    · rcases List.mem_cons.1 h with h1 | h1
      · simp [h1]
      · have := splitL_mem h1; simp; omega
    · split at h
      · rename_i e; exact absurd e (splitL_ne c l)
      · rename_i x' r e
        rcases List.mem_cons.1 h with h1 | h1
        · have := splitL_mem (l := l) (c := c) (x := x') (by rw [e]; simp)
          rw [h1]; simp; omega
        · have := splitL_mem (l := l) (c := c) (x := x) (by rw [e]; simp [h1])
          simp; omega
theorem sline_any (s : Sc) (A : Option Addr) (c : Nat) (t : ByteArray) (w : World) (N0 : Nat) (h0 : Pks w N0 A s.xs.length s.xs) (hN0 : N0 ≤ w.heap.size) (hc : s.xs.length ≤ c) (hcm : c ≤ maxLen) (hok : scOk s) (ht : t.size ≤ 500) :
    Calls Tryz.prog 26 #[stV s A c, .string t] w (StRet N0 (lineS s t.data.toList) w) := by
  have hlen : ∀ x, x ∈ splitL 32 t.data.toList → x.length ≤ 500 := fun x hx => by have := splitL_mem hx; have := byte_len t; omega
  cases hsp : splitL 32 t.data.toList with
  | nil => exact absurd hsp (splitL_ne _ _)
  | cons x xs =>
    rw [hsp] at hlen
    by_cases k0 : xs.length = 0
    · have hxs := List.length_eq_zero_iff.1 k0
      subst hxs
      rw [lineS_1 hsp]
      by_cases q1 : x = wRead
      · rw [if_pos q1]; subst q1; exact sline_read s A c t w N0 h0 hN0 hc hcm hok ht hsp
      · rw [if_neg q1]
        by_cases q2 : x = wNew
        · rw [if_pos q2]; subst q2; exact sline_new s A c t w N0 h0 hN0 hc hcm hok ht hsp
        · rw [if_neg q2]
          by_cases q3 : x = wRing
          · rw [if_pos q3]; subst q3; exact sline_ring s A c t w N0 h0 hN0 hc hcm hok ht hsp
          · rw [if_neg q3]; exact sline_what1 s A c t w N0 h0 hN0 hc hcm hok ht x hsp q1 q2 q3
    · by_cases k2 : xs.length = 2
      · obtain ⟨a, b, rfl⟩ : ∃ a b, xs = [a, b] := by
          match xs, k2 with
          | [a, b], _ => exact ⟨a, b, rfl⟩
        have ha := hlen a (by simp)
        have hb := hlen b (by simp)
        rw [lineS_3 hsp]
        by_cases q1 : x = wKey
        · rw [if_pos (Or.inl q1), decide_eq_true q1]; subst q1; exact sline_key s A c t w N0 h0 hN0 hc hcm hok ht a b hsp ha hb
        · by_cases q2 : x = wPut
          · rw [if_pos (Or.inr q2), decide_eq_false q1]; subst q2; exact sline_put s A c t w N0 h0 hN0 hc hcm hok ht a b hsp ha hb
          · rw [if_neg (fun hh => hh.elim q1 q2)]
            by_cases q3 : x = wWide
            · rw [if_pos q3]; subst q3; exact sline_wide s A c t w N0 h0 hN0 hc hcm hok ht a b hsp ha hb
            · rw [if_neg q3]; exact sline_what3 s A c t w N0 h0 hN0 hc hcm hok ht x a b hsp q1 q2 q3
      · rw [lineS_o (by rw [hsp]; simp; exact fun e => k0 (by rw [e]; rfl)) (by rw [hsp]; simp; omega)]
        exact sline_whato s A c t w N0 h0 hN0 hc hcm hok ht x xs hsp k0 k2

end Go.Proofs.YthbkmnladaneaaaGreatDoor
