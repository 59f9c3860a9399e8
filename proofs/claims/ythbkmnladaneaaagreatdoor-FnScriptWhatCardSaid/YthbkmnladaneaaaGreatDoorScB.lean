/-
  Scripts: a script, in the reference.
  No condition.
-/
import Derived.Test.YthbkmnladaneaaaGreatDoorScZ
namespace Go.Proofs.YthbkmnladaneaaaGreatDoor
open Go.RowKit
set_option linter.unusedVariables false
set_option linter.unusedSimpArgs false
set_option maxRecDepth 100000

/-- Packets do not lie in a block of six cells of which the third is a slice. -/
theorem pks_off {w : World} {B n g n1 c1 : Nat} {T : TypeId} {A A1 : Option Addr} {xs : List Pk} {v0 v1 v3 v4 v5 : Value} (h : Pks w B A n xs) (hk : Bk w g T #[v0, v1, .slice A1 n1 c1, v3, v4, v5]) (hn : 0 < n) (k o : Nat) (e : A = some ⟨k, o, none⟩) : k ≠ g := by
  obtain ⟨b, off, e2, hb, hc⟩ := h.addr hn
  rw [e2] at e
  injection e with e
  injection e with e1 e3
  subst e1
  rintro rfl
  obtain ⟨x, hx⟩ : ∃ x, xs[0]? = some x := ⟨_, List.getElem?_eq_getElem (by rw [h.len]; exact hn)⟩
  obtain ⟨c0, cc1, c2, c3, c4, c5⟩ := hc 0 x hx
  rw [hk.cell] at c2 c5
  rcases Nat.eq_zero_or_pos off with h0 | h0
  · subst h0
    simp at c2
  · rw [Array.getElem?_eq_none (by simp; omega)] at c5
    cases c5
theorem exec_long {t : ByteArray} (h : ¬ t.size ≤ 500) : execL t.data.toList = wLong := by
  unfold execL
  rw [if_pos (by have := byte_len t; omega)]
theorem exec_end {t : ByteArray} {ls : List (List UInt8)} {l : List UInt8} (h : t.size ≤ 500) (hs : splitL 10 t.data.toList = ls ++ [l]) : execL t.data.toList = (runS sc0 ls).2 ++ lostA (runS sc0 ls).1 ++ [10] := by
  unfold execL
  rw [if_neg (by have := byte_len t; omega), hs, List.dropLast_concat]
set_option maxHeartbeats 2000000 in
theorem sexec_any (t : ByteArray) (w : World) : Calls Tryz.prog 13 #[.string t] w (StrRet (execL t.data.toList) w) := by
  have hl := byte_len t
  by_cases hsz : t.size ≤ 500
  · have HEX := Lib.hid (fun ls l => exec_end (ls := ls) (l := l) hsz)
    generalize hex : execL t.data.toList = ex at *
    clear hex
    go_enter Tryz.func13, Tryz.ntmps13
    go_wp2
    go_loopw [4, 5, 6] (fun o f i wr => ∃ (k fr : Nat) (ls : List (List UInt8)) (s : Sc) (A : Option Addr) (c : Nat) (p : List UInt8), k ≤ t.size ∧ fr ≤ k ∧ i = .int .i64 k ∧ f = .int .i64 fr ∧ o = .string ⟨p.toArray⟩ ∧ p.length ≤ 21 * k ∧ Hid (runS sc0 ls = (s, p)) ∧ Hid (scOk s) ∧ Hid (splitL 10 t.data.toList = ls ++ splitL 10 (t.data.toList.drop fr)) ∧ Hid (∀ j, fr ≤ j → j < k → t.data.toList[j]? ≠ some 10) ∧ Hid (Bk wr (w.heap.size + 1) 51 #[.int .i64 4, .int .i64 s.co, .slice A s.xs.length c, .int .i64 s.nx, .int .i64 s.lo, .bool s.wt]) ∧ Hid (Pks wr wr.heap.size A s.xs.length s.xs) ∧ Hid (s.xs.length ≤ c ∧ c ≤ maxLen) ∧ Hid (Below w.heap.size w wr)) (fun _ _ i _ => t.size - (intOf i).toNat)
    case atStart => exact ⟨0, 0, [], sc0, some ⟨w.heap.size, 0, none⟩, 0, [], by omega, by omega, rfl, rfl, rfl, by simp, Lib.hid rfl, Lib.hid sc0_ok, Lib.hid rfl, Lib.hid (fun j h1 h2 => absurd h2 (by omega)), Lib.hid (bk_new1 _ _ _ _), Lib.hid ⟨rfl, fun h => absurd h (by decide)⟩, Lib.hid ⟨Nat.le_refl _, by unfold maxLen; omega⟩, Lib.hid (((Below.refl _ _).alloc (Nat.le_refl _) _).alloc (by simp) _)⟩
    case round =>
      obtain ⟨k, fr, ls, s, A, c, p, hk, hfr, rfl, rfl, rfl, hpl, hrun, hok, hsp, hno, hbk, hpk, hcc, hB⟩ := hrel
      have hBs := hB.out.size
      by_cases hlt : k < t.size
      · have hb := byte_at t k hlt
        by_cases hc : t[k] = 10
        · have e0 : ((t[k].toNat : Int) == 10) = true := by rw [hc]; rfl
          rw [hc] at hb
          have hline := extr_list t fr k
          obtain ⟨l, hll⟩ : ∃ l, (t.data.toList.take k).drop fr = l := ⟨_, rfl⟩
          have hsp2 := Lib.hid (show splitL 10 t.data.toList = (ls ++ [l]) ++ splitL 10 (t.data.toList.drop (k + 1)) by rw [hsp.out, splitL_at hb hfr hno.out, hll, List.append_assoc]; rfl)
          rw [hll] at hline
          have hrun2 := Lib.hid (show runS sc0 (ls ++ [l]) = ((lineS s l).1, p ++ ((lineS s l).2 ++ [10])) by rw [runS_snoc, hrun.out])
          have hok2 := Lib.hid (lineS_ok (l := l) hok.out)
          have hol := lineS_len s l
          have hte : (t.extract fr k).size ≤ 500 := by rw [ByteArray.size_extract]; omega
          have HR := Lib.hid (fun (w' : World) (hw : Below wr.heap.size wr w') => sline_any s A c (t.extract fr k) w' w'.heap.size ((hpk.out.below hw).more hw.size) (Nat.le_refl _) hcc.out.1 hcc.out.2 hok.out hte)
          rw [hline] at HR
          unfold StRet at HR
          generalize lineS s l = r at *
          obtain ⟨s2, o2⟩ := r
          unfold stV sV at HR
          simp only at HR hol hrun2 hok2
          obtain ⟨o3, ho3⟩ : ∃ o3, o2 ++ [10] = o3 := ⟨_, rfl⟩
          obtain ⟨q, hq⟩ : ∃ q, p ++ o3 = q := ⟨_, rfl⟩
          rw [ho3] at HR hrun2
          rw [hq] at hrun2
          have ap := app_str p o3 q hq
          have hol3 : o3.length ≤ 21 := by rw [← ho3]; simp; omega
          have hql : q.length ≤ 21 * (k + 1) := by rw [← hq]; simp; omega
          have hq1 : ¬ 9223372036854775807 < p.length + o3.length := by omega
          have hglt := hbk.out.lt
          have hS5 := hbk.out.drew
          have hS7 := (hbk.out.alloc (.cells #[.int .i64 0, .int .i64 0, .slice none 0 0, .int .i64 0, .int .i64 0, .bool false] 51)).drew
          have hpo := Lib.hid (fun (w' : World) (A2 : Option Addr) (n2 : Nat) (xs2 : List Pk) (hp2 : Pks w' w'.heap.size A2 n2 xs2) (hk2 : Bk w' (w.heap.size + 1) 51 #[.int .i64 4, .int .i64 s.co, .slice A s.xs.length c, .int .i64 s.nx, .int .i64 s.lo, .bool s.wt]) => pks_off hp2 hk2)
          clear hb hc ho3 hq hll hline hsp hno hrun hok hpk hcc hte
          generalize hnn : s.xs.length = n at *
          generalize s.co = co at *
          generalize s.nx = nx at *
          generalize s.lo = lo at *
          generalize s.wt = wt at *
          have hX7 := (Bk.new wr 51 #[.int .i64 0, .int .i64 0, .slice none 0 0, .int .i64 0, .int .i64 0, .bool false]).drew
          (try clear hS5_c0); (try clear hS5_f0)
          (try clear hS5_c1); (try clear hS5_f1)
          (try clear hS5_c2); (try clear hS5_f2)
          (try clear hS5_c3); (try clear hS5_f3)
          (try clear hS5_c4); (try clear hS5_f4)
          (try clear hS5_c5); (try clear hS5_f5)
          (try clear hS5_lt)
          have hS5_lt := hS5.lt; (try simp only [World.size_alloc] at hS5_lt)
          have hS5_c0 := hS5.cell 0; have hS5_f0 := hS5.frozen 0
          have hS5_c1 := hS5.cell 1; have hS5_f1 := hS5.frozen 1
          have hS5_c2 := hS5.cell 2; have hS5_f2 := hS5.frozen 2
          have hS5_c3 := hS5.cell 3; have hS5_f3 := hS5.frozen 3
          have hS5_c4 := hS5.cell 4; have hS5_f4 := hS5.frozen 4
          have hS5_c5 := hS5.cell 5; have hS5_f5 := hS5.frozen 5
          simp only [List.getElem?_toArray, List.getElem?_cons_zero, List.getElem?_cons_succ] at hS5_c0 hS5_c1 hS5_c2 hS5_c3 hS5_c4 hS5_c5
          (try clear hS7_c0); (try clear hS7_f0)
          (try clear hS7_c1); (try clear hS7_f1)
          (try clear hS7_c2); (try clear hS7_f2)
          (try clear hS7_c3); (try clear hS7_f3)
          (try clear hS7_c4); (try clear hS7_f4)
          (try clear hS7_c5); (try clear hS7_f5)
          (try clear hS7_lt)
          have hS7_lt := hS7.lt; (try simp only [World.size_alloc] at hS7_lt)
          have hS7_c0 := hS7.cell 0; have hS7_f0 := hS7.frozen 0
          have hS7_c1 := hS7.cell 1; have hS7_f1 := hS7.frozen 1
          have hS7_c2 := hS7.cell 2; have hS7_f2 := hS7.frozen 2
          have hS7_c3 := hS7.cell 3; have hS7_f3 := hS7.frozen 3
          have hS7_c4 := hS7.cell 4; have hS7_f4 := hS7.frozen 4
          have hS7_c5 := hS7.cell 5; have hS7_f5 := hS7.frozen 5
          simp only [List.getElem?_toArray, List.getElem?_cons_zero, List.getElem?_cons_succ] at hS7_c0 hS7_c1 hS7_c2 hS7_c3 hS7_c4 hS7_c5
          (try clear hX7_c0); (try clear hX7_f0)
          (try clear hX7_c1); (try clear hX7_f1)
          (try clear hX7_c2); (try clear hX7_f2)
          (try clear hX7_c3); (try clear hX7_f3)
          (try clear hX7_c4); (try clear hX7_f4)
          (try clear hX7_c5); (try clear hX7_f5)
          (try clear hX7_lt)
          have hX7_lt := hX7.lt; (try simp only [World.size_alloc] at hX7_lt)
          have hX7_c0 := hX7.cell 0; have hX7_f0 := hX7.frozen 0
          have hX7_c1 := hX7.cell 1; have hX7_f1 := hX7.frozen 1
          have hX7_c2 := hX7.cell 2; have hX7_f2 := hX7.frozen 2
          have hX7_c3 := hX7.cell 3; have hX7_f3 := hX7.frozen 3
          have hX7_c4 := hX7.cell 4; have hX7_f4 := hX7.frozen 4
          have hX7_c5 := hX7.cell 5; have hX7_f5 := hX7.frozen 5
          simp only [List.getElem?_toArray, List.getElem?_cons_zero, List.getElem?_cons_succ] at hX7_c0 hX7_c1 hX7_c2 hX7_c3 hX7_c4 hX7_c5
          go_wp2_with fail
          go_region_held3 (fun w' => w'.cell? ⟨w.heap.size + 1, 0, none⟩ = some (.int .i64 4) ∧ w'.cell? ⟨w.heap.size + 1, 1, none⟩ = some (.int .i64 co) ∧ w'.cell? ⟨w.heap.size + 1, 2, none⟩ = some (.slice A n c) ∧ w'.cell? ⟨w.heap.size + 1, 3, none⟩ = some (.int .i64 nx) ∧ w'.cell? ⟨w.heap.size + 1, 4, none⟩ = some (.int .i64 lo) ∧ w'.cell? ⟨w.heap.size + 1, 5, none⟩ = some (.bool wt)) (first | with_reducible exact ⟨hS5_c0, hS5_c1, hS5_c2, hS5_c3, hS5_c4, hS5_c5⟩ | with_reducible exact ⟨hS7_c0, hS7_c1, hS7_c2, hS7_c3, hS7_c4, hS7_c5⟩ | with_reducible exact ⟨hS6_c0, hS6_c1, hS6_c2, hS6_c3, hS6_c4, hS6_c5⟩ | with_reducible exact ⟨by (repeat (rw [World.cell?_setCell_other _ _ _ _ (fun e => by injection e; omega)])); with_reducible assumption, by (repeat (rw [World.cell?_setCell_other _ _ _ _ (fun e => by injection e; omega)])); with_reducible assumption, by (repeat (rw [World.cell?_setCell_other _ _ _ _ (fun e => by injection e; omega)])); with_reducible assumption, by (repeat (rw [World.cell?_setCell_other _ _ _ _ (fun e => by injection e; omega)])); with_reducible assumption, by (repeat (rw [World.cell?_setCell_other _ _ _ _ (fun e => by injection e; omega)])); with_reducible assumption, by (repeat (rw [World.cell?_setCell_other _ _ _ _ (fun e => by injection e; omega)])); with_reducible assumption⟩ | go_keep)
            ((go_at_call 26
              refine (HR.out _ (by first | exact (Below.refl _ _).drew | exact ((Below.refl _ _).alloc (Nat.le_refl _) _).drew)).mono ?_
              rintro e w2 ⟨A2, c2, rfl, hc2, hm2, hp2, hb2, -⟩
              have hS6 : Bk w2 (w.heap.size + 1) 51 #[.int .i64 4, .int .i64 co, .slice A n c, .int .i64 nx, .int .i64 lo, .bool wt] := by first | exact hS5.below hb2 hS5.lt | exact hS7.below hb2 hS7.lt
              (try clear hS6_c0); (try clear hS6_f0)
              (try clear hS6_c1); (try clear hS6_f1)
              (try clear hS6_c2); (try clear hS6_f2)
              (try clear hS6_c3); (try clear hS6_f3)
              (try clear hS6_c4); (try clear hS6_f4)
              (try clear hS6_c5); (try clear hS6_f5)
              (try clear hS6_lt)
              have hS6_lt := hS6.lt; (try simp only [World.size_alloc] at hS6_lt)
              have hS6_c0 := hS6.cell 0; have hS6_f0 := hS6.frozen 0
              have hS6_c1 := hS6.cell 1; have hS6_f1 := hS6.frozen 1
              have hS6_c2 := hS6.cell 2; have hS6_f2 := hS6.frozen 2
              have hS6_c3 := hS6.cell 3; have hS6_f3 := hS6.frozen 3
              have hS6_c4 := hS6.cell 4; have hS6_f4 := hS6.frozen 4
              have hS6_c5 := hS6.cell 5; have hS6_f5 := hS6.frozen 5
              simp only [List.getElem?_toArray, List.getElem?_cons_zero, List.getElem?_cons_succ] at hS6_c0 hS6_c1 hS6_c2 hS6_c3 hS6_c4 hS6_c5
              have hB2 : Below w.heap.size w w2 := by first | exact hB.out.drew.trans (hb2.mono hBs) | exact (hB.out.alloc hBs _).drew.trans (hb2.mono (by simp; omega))
              have hne6 := World.new_ne _ _ hS6_c0
              (try (have hX6 : Bk w2 wr.heap.size 51 #[.int .i64 0, .int .i64 0, .slice none 0 0, .int .i64 0, .int .i64 0, .bool false] := hX7.below hb2 hX7.lt; have hX6_lt := hX6.lt; have hX6_c0 := hX6.cell 0; have hX6_f0 := hX6.frozen 0; have hX6_c1 := hX6.cell 1; have hX6_f1 := hX6.frozen 1; have hX6_c2 := hX6.cell 2; have hX6_f2 := hX6.frozen 2; have hX6_c3 := hX6.cell 3; have hX6_f3 := hX6.frozen 3; have hX6_c4 := hX6.cell 4; have hX6_f4 := hX6.frozen 4; have hX6_c5 := hX6.cell 5; have hX6_f5 := hX6.frozen 5; simp only [List.getElem?_toArray, List.getElem?_cons_zero, List.getElem?_cons_succ] at hX6_c0 hX6_c1 hX6_c2 hX6_c3 hX6_c4 hX6_c5))))
          rotate_left
          · have hne0 : w.heap.size + 1 ≠ wr.heap.size := by omega
            have hfar := hpo.out w2 A2 _ _ hp2 hS6
            have hfar2 := fun hn k o e => pks_off hp2 hX6 hn k o e
            have HPK := Lib.hid (fun (W4 : World) (hX : But (fun k => k = w.heap.size + 1 ∨ k = wr.heap.size) w2 W4) => (show Pks W4 W4.heap.size A2 s2.xs.length s2.xs from Sl.more (Sl.far hp2 hX (fun hn k o e hk => hk.elim (hfar hn k o e) (hfar2 hn k o e))) hX.size))
            have HBL := Lib.hid (fun (W4 : World) (hX : But (fun k => k = w.heap.size + 1 ∨ k = wr.heap.size) w2 W4) => (show Below w.heap.size w W4 from hB2.trans (hX.below (fun k hk => by omega) hB2.size)))
            clear hfar hfar2 hp2
            go_wp2
            go_roundw
            case rel => exact ⟨k + 1, k + 1, ls ++ [l], s2, A2, c2, q, by omega, by omega, by go_num, by go_num, rfl, hql, hrun2, hok2, hsp2, Lib.hid (fun j h1 h2 => absurd h2 (by omega)), Lib.hid (((((((((((((hS6.far (p := ⟨wr.heap.size, 0, none⟩) hne0 (.int .i64 4)).far (p := ⟨wr.heap.size, 1, none⟩) hne0 (.int .i64 s2.co)).far (p := ⟨wr.heap.size, 2, none⟩) hne0 (.slice A2 s2.xs.length c2)).far (p := ⟨wr.heap.size, 3, none⟩) hne0 (.int .i64 s2.nx)).far (p := ⟨wr.heap.size, 4, none⟩) hne0 (.int .i64 s2.lo)).far (p := ⟨wr.heap.size, 5, none⟩) hne0 (.bool s2.wt)).set_ 0 (.int .i64 4)).set_ 1 (.int .i64 s2.co)).set_ 2 (.slice A2 s2.xs.length c2)).set_ 3 (.int .i64 s2.nx)).set_ 4 (.int .i64 s2.lo)).set_ 5 (.bool s2.wt))), Lib.hid (HPK.out _ (by repeat (first | with_reducible exact But.refl _ _ | with_reducible refine But.setCell ?_ (Or.inl (Or.inl rfl)) _ | with_reducible refine But.setCell ?_ (Or.inl (Or.inr rfl)) _ | with_reducible refine But.alloc ?_ _ | with_reducible refine But.drewN ?_ _ | with_reducible refine But.drew ?_))), Lib.hid ⟨hc2, hm2⟩, Lib.hid (HBL.out _ (by repeat (first | with_reducible exact But.refl _ _ | with_reducible refine But.setCell ?_ (Or.inl (Or.inl rfl)) _ | with_reducible refine But.setCell ?_ (Or.inl (Or.inr rfl)) _ | with_reducible refine But.alloc ?_ _ | with_reducible refine But.drewN ?_ _ | with_reducible refine But.drew ?_)))⟩
            case measure => simp [intOf]; omega
          · have hfar := hpo.out w2 A2 _ _ hp2 hS6
            have HPK := Lib.hid (fun (W4 : World) (hX : But (fun k => k = w.heap.size + 1 ∨ False) w2 W4) => (show Pks W4 W4.heap.size A2 s2.xs.length s2.xs from Sl.more (Sl.far hp2 hX (fun hn k o e hk => hk.elim (hfar hn k o e) id)) hX.size))
            have HBL := Lib.hid (fun (W4 : World) (hX : But (fun k => k = w.heap.size + 1 ∨ False) w2 W4) => (show Below w.heap.size w W4 from hB2.trans (hX.below (fun k hk => hk.elim (fun e => by omega) False.elim) hB2.size)))
            clear hfar hp2
            go_wp2
            go_roundw
            case rel => exact ⟨k + 1, k + 1, ls ++ [l], s2, A2, c2, q, by omega, by omega, by go_num, by go_num, rfl, hql, hrun2, hok2, hsp2, Lib.hid (fun j h1 h2 => absurd h2 (by omega)), Lib.hid (((((((hS6.set_ 0 (.int .i64 4)).set_ 1 (.int .i64 s2.co)).set_ 2 (.slice A2 s2.xs.length c2)).set_ 3 (.int .i64 s2.nx)).set_ 4 (.int .i64 s2.lo)).set_ 5 (.bool s2.wt)).alloc _), Lib.hid (HPK.out _ (by repeat (first | with_reducible exact But.refl _ _ | with_reducible refine But.setCell ?_ (Or.inl (Or.inl rfl)) _ | with_reducible refine But.setCell ?_ (Or.inl (Or.inr rfl)) _ | with_reducible refine But.alloc ?_ _ | with_reducible refine But.drewN ?_ _ | with_reducible refine But.drew ?_))), Lib.hid ⟨hc2, hm2⟩, Lib.hid (HBL.out _ (by repeat (first | with_reducible exact But.refl _ _ | with_reducible refine But.setCell ?_ (Or.inl (Or.inl rfl)) _ | with_reducible refine But.setCell ?_ (Or.inl (Or.inr rfl)) _ | with_reducible refine But.alloc ?_ _ | with_reducible refine But.drewN ?_ _ | with_reducible refine But.drew ?_)))⟩
            case measure => simp [intOf]; omega
        · have e0 : ((t[k].toNat : Int) == 10) = false := by
            rw [beq_eq_false_iff_ne]; intro e; apply hc; apply UInt8.toNat_inj.1; exact Int.ofNat_inj.1 e
          have hno2 := Lib.hid (show ∀ j, fr ≤ j → j < k + 1 → t.data.toList[j]? ≠ some 10 by
            intro j h1 h2
            by_cases e : j = k
            · subst e; rw [hb]; intro e; exact hc (Option.some.inj e)
            · exact hno.out j h1 (by omega))
          clear hb hc
          go_wp2
          go_roundw
          case rel => exact ⟨k + 1, fr, ls, s, A, c, p, by omega, by omega, by go_num, rfl, rfl, by omega, hrun, hok, hsp, hno2, hbk, hpk, hcc, hB⟩
          case measure => simp [intOf]; omega
      · have hk' : k = t.size := by omega
        subst hk'
        have hs := show splitL 10 t.data.toList = ls ++ [t.data.toList.drop fr] by rw [hsp.out, splitL_last (fun j h1 h2 => hno.out j h1 (by omega))]
        have hexx := HEX.out ls _ hs
        rw [hrun.out] at hexx
        simp only at hexx
        obtain ⟨-, -, -, hlo0, hlo1⟩ := hok.out
        obtain ⟨l, hll⟩ : ∃ l, dI s.lo = l := ⟨_, rfl⟩
        have hl7 := dI_len7 s.lo
        rw [hll] at hl7
        have HD := Lib.hid (fun w => sdec_any s.lo w (by omega) (by omega))
        rw [hll] at HD
        unfold DecRet at HD
        obtain ⟨m1, hm1⟩ : ∃ m1, p ++ wLostB = m1 := ⟨_, rfl⟩
        obtain ⟨m2, hm2⟩ : ∃ m2, m1 ++ l = m2 := ⟨_, rfl⟩
        obtain ⟨m3, hm3⟩ : ∃ m3, m2 ++ [10] = m3 := ⟨_, rfl⟩
        have ap1 := app_str p wLostB m1 hm1
        have ap2 := app_str m1 l m2 hm2
        have ap3 := app_str m2 [10] m3 hm3
        have hk1 : m1.length = p.length + 5 := by rw [← hm1]; simp [wLostB]
        have hk2 : m2.length = m1.length + l.length := by rw [← hm2]; simp
        have hex3 : ex = m3 := by rw [hexx, ← hm3, ← hm2, ← hm1]; unfold lostA; rw [hll]; simp [List.append_assoc]
        have HE3 := Lib.hid hex3
        simp only [wLostB] at ap1
        have hq1 : ¬ 9223372036854775807 < p.length + 5 := by omega
        have hq2 : ¬ 9223372036854775807 < m1.length + l.length := by omega
        have hq3 : ¬ 9223372036854775807 < m2.length + 1 := by omega
        have hSE := hbk.out
        clear hs hexx hm1 hm2 hm3 hex3 hll hk1 hk2
        generalize s.lo = lo at *
        (try clear hSE_c0); (try clear hSE_f0)
        (try clear hSE_c1); (try clear hSE_f1)
        (try clear hSE_c2); (try clear hSE_f2)
        (try clear hSE_c3); (try clear hSE_f3)
        (try clear hSE_c4); (try clear hSE_f4)
        (try clear hSE_c5); (try clear hSE_f5)
        (try clear hSE_lt)
        have hSE_lt := hSE.lt; (try simp only [World.size_alloc] at hSE_lt)
        have hSE_c0 := hSE.cell 0; have hSE_f0 := hSE.frozen 0
        have hSE_c1 := hSE.cell 1; have hSE_f1 := hSE.frozen 1
        have hSE_c2 := hSE.cell 2; have hSE_f2 := hSE.frozen 2
        have hSE_c3 := hSE.cell 3; have hSE_f3 := hSE.frozen 3
        have hSE_c4 := hSE.cell 4; have hSE_f4 := hSE.frozen 4
        have hSE_c5 := hSE.cell 5; have hSE_f5 := hSE.frozen 5
        simp only [List.getElem?_toArray, List.getElem?_cons_zero, List.getElem?_cons_succ] at hSE_c0 hSE_c1 hSE_c2 hSE_c3 hSE_c4 hSE_c5
        go_wp2_with (go_at_call 27; refine (HD.out _).mono ?_; rintro e w2 ⟨rfl, hb2⟩)
        go_ret
        exact ⟨by rw [HE3.out]; rfl, hB.out.trans (hb2.mono hBs)⟩
  · rw [exec_long hsz]
    go_enter Tryz.func13, Tryz.ntmps13
    go_wp2
    go_ret
    exact ⟨rfl, Below.refl _ _⟩
end Go.Proofs.YthbkmnladaneaaaGreatDoor
