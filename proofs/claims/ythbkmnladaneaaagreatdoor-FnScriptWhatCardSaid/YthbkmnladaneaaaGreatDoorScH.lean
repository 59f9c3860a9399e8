/-
  Scripts: reading a packet and a wide number, in the reference.
  Conditions: the state is valid (scOk), its packets lie at the world; the words' memory.
-/
import Derived.Test.YthbkmnladaneaaaGreatDoorScG
import Derived.Test.YthbkmnladaneaaaGreatDoorScD
import Derived.Deep.RegionHeld3
namespace Go.Proofs.YthbkmnladaneaaaGreatDoor
open Go.RowKit
set_option linter.unusedVariables false
set_option linter.unusedSimpArgs false
set_option maxRecDepth 100000

theorem skip_ring (s : Sc) (f : Int) : (skipS s f).xs = s.xs ∧ (skipS s f).co = s.co := by
  unfold skipS
  split <;> exact ⟨rfl, rfl⟩
theorem take_ring (s : Sc) : (takeS s).1.xs = s.xs ∧ (takeS s).1.co = s.co := by
  unfold takeS
  split
  · exact skip_ring _ _
  · split
    · exact ⟨rfl, rfl⟩
    · split
      · exact ⟨rfl, rfl⟩
      · split
        · exact skip_ring _ _
        · exact ⟨rfl, rfl⟩
theorem app_str (a b : List UInt8) (m : List UInt8) (h : a ++ b = m) : (⟨a.toArray⟩ : ByteArray) ++ ⟨b.toArray⟩ = ⟨m.toArray⟩ := by rw [← h]; exact str_app a b
theorem stRet_of {s s' : Sc} {o : List UInt8} {A : Option Addr} {n c N0 : Nat} {w : World} (hx : s'.xs = s.xs) (hn : s.xs.length = n) (hc : n ≤ c) (hcm : c ≤ maxLen) (h : Pks w N0 A n s.xs) (hN0 : N0 ≤ w.heap.size) (w' : World) (hb : Below w.heap.size w w') :
    StRet N0 (s', o) w (.returned (.tuple #[.agg #[.int .i64 4, .int .i64 s'.co, .slice A n c, .int .i64 s'.nx, .int .i64 s'.lo, .bool s'.wt], .string ⟨(o ++ [10]).toArray⟩])) w' := by
  subst hn
  refine ⟨A, c, ?_, ?_, hcm, ?_, hb, ?_⟩
  · show _ = Ending.returned (.tuple #[stV s' A c, sV (o ++ [10])])
    unfold stV
    rw [hx]
    rfl
  · show s'.xs.length ≤ c
    rw [hx]; exact hc
  · show Pks w' w'.heap.size A s'.xs.length s'.xs
    rw [hx]
    exact ((h.more hN0).below hb).more hb.size
  · show OldNew N0 w.heap.size s'.xs.length A
    rw [hx]
    exact pks_old h

set_option maxHeartbeats 2000000 in
theorem sread_any (s : Sc) (A : Option Addr) (c : Nat) (w : World) (N0 : Nat) (h0 : Pks w N0 A s.xs.length s.xs) (hN0 : N0 ≤ w.heap.size) (hc : s.xs.length ≤ c) (hcm : c ≤ maxLen) (hok : scOk s) :
    Calls Tryz.prog 37 #[stV s A c] w (StRet N0 (readS s) w) := by
  have h := h0.more hN0
  have hl := scOk_len hok
  have HT := Lib.hid (fun (w' : World) (hw : Below w.heap.size w w') => stake_any s A c w' ((h.below hw).more hw.size) hok)
  have hok2 := take_ok hok
  have htp := fun p => take_p (p := p) hok
  have hring := take_ring s
  obtain ⟨-, -, -, hlo0, hlo1⟩ := id hok2
  unfold TakeRet at HT
  unfold readS
  cases ht : takeS s with
  | mk s' t =>
  rw [ht] at HT hok2 htp hring hlo0 hlo1
  have HF := Lib.hid (fun (o : List UInt8) => stRet_of (o := o) hring.1 rfl hc hcm h0 hN0)
  rw [hring.2] at HF
  simp only at hlo0 hlo1
  have hpk : ∀ p, t = .got p → 0 ≤ p.wi ∧ p.wi ≤ 999999 := fun p hp => by
    obtain ⟨j, hj⟩ := List.mem_iff_getElem?.1 (htp p hp)
    have := (hok.1.2.2.2.2.1.2 j p (List.getElem?_eq_some_iff.1 hj).1 hj).1
    unfold pkOk at this
    omega
  clear ht hok2 hring h0
  unfold rgV rdV stV at *
  generalize s.xs.length = n at *
  generalize s.co = co at *
  generalize s.nx = nx at *
  generalize s.lo = lo at *
  generalize s.wt = wt at *
  generalize s'.nx = nx2 at *
  generalize hlo2 : s'.lo = lo2 at *
  generalize s'.wt = wt2 at *
  have hS := (Bk.new w 51 #[.int .i64 4, .int .i64 co, .slice A n c, .int .i64 nx, .int .i64 lo, .bool wt]).alloc (.cells #[.int .i64 0, .int .i64 0, .slice none 0 0, .int .i64 0, .int .i64 0, .bool false] 51)
  have hO := bk_new1 w (.cells #[.int .i64 4, .int .i64 co, .slice A n c, .int .i64 nx, .int .i64 lo, .bool wt] 51) 51 #[.int .i64 0, .int .i64 0, .slice none 0 0, .int .i64 0, .int .i64 0, .bool false]
  have hBa : Below w.heap.size w ((w.alloc (.cells #[.int .i64 4, .int .i64 co, .slice A n c, .int .i64 nx, .int .i64 lo, .bool wt] 51)).alloc (.cells #[.int .i64 0, .int .i64 0, .slice none 0 0, .int .i64 0, .int .i64 0, .bool false] 51)) := (by repeat (first | exact Below.refl _ _ | assumption | refine Below.setCell ?_ (by first | omega | (simp; done) | (simp; omega)) _ | refine Below.alloc ?_ (by first | omega | (simp; done) | (simp; omega)) _ | refine Below.drew ?_ | refine Below.drewN' ?_ _ | refine Below.trans ?_ (Below.mono (by assumption) (by first | omega | (simp; done) | (simp; omega)))))
  (try clear hS_c0); (try clear hS_f0)
  (try clear hS_c1); (try clear hS_f1)
  (try clear hS_c2); (try clear hS_f2)
  (try clear hS_c3); (try clear hS_f3)
  (try clear hS_c4); (try clear hS_f4)
  (try clear hS_c5); (try clear hS_f5)
  (try clear hS_lt)
  have hS_lt := hS.lt; (try simp only [World.size_alloc] at hS_lt)
  have hS_c0 := hS.cell 0; have hS_f0 := hS.frozen 0
  have hS_c1 := hS.cell 1; have hS_f1 := hS.frozen 1
  have hS_c2 := hS.cell 2; have hS_f2 := hS.frozen 2
  have hS_c3 := hS.cell 3; have hS_f3 := hS.frozen 3
  have hS_c4 := hS.cell 4; have hS_f4 := hS.frozen 4
  have hS_c5 := hS.cell 5; have hS_f5 := hS.frozen 5
  simp only [List.getElem?_toArray, List.getElem?_cons_zero, List.getElem?_cons_succ] at hS_c0 hS_c1 hS_c2 hS_c3 hS_c4 hS_c5
  (try clear hO_c0); (try clear hO_f0)
  (try clear hO_c1); (try clear hO_f1)
  (try clear hO_c2); (try clear hO_f2)
  (try clear hO_c3); (try clear hO_f3)
  (try clear hO_c4); (try clear hO_f4)
  (try clear hO_c5); (try clear hO_f5)
  (try clear hO_lt)
  have hO_lt := hO.lt; (try simp only [World.size_alloc] at hO_lt)
  have hO_c0 := hO.cell 0; have hO_f0 := hO.frozen 0
  have hO_c1 := hO.cell 1; have hO_f1 := hO.frozen 1
  have hO_c2 := hO.cell 2; have hO_f2 := hO.frozen 2
  have hO_c3 := hO.cell 3; have hO_f3 := hO.frozen 3
  have hO_c4 := hO.cell 4; have hO_f4 := hO.frozen 4
  have hO_c5 := hO.cell 5; have hO_f5 := hO.frozen 5
  simp only [List.getElem?_toArray, List.getElem?_cons_zero, List.getElem?_cons_succ] at hO_c0 hO_c1 hO_c2 hO_c3 hO_c4 hO_c5
  cases t with
  | none =>
    have HN := Lib.hid (HF.out wNone)
    unfold tkV tkN at HT
    go_enter Tryz.func37, Tryz.ntmps37
    go_wp2_with (first
      | (go_at_call 49
         refine (HT.out _ hBa).mono ?_
         rintro e w1 ⟨rfl, hb1⟩
         replace hBa := hBa.trans (hb1.mono hBa.size)
         replace hS := hS.below hb1 (by first | omega | exact hS.lt | (simp; done) | (simp; omega))
         (try clear hS_c0); (try clear hS_f0)
         (try clear hS_c1); (try clear hS_f1)
         (try clear hS_c2); (try clear hS_f2)
         (try clear hS_c3); (try clear hS_f3)
         (try clear hS_c4); (try clear hS_f4)
         (try clear hS_c5); (try clear hS_f5)
         (try clear hS_lt)
         have hS_lt := hS.lt; (try simp only [World.size_alloc] at hS_lt)
         have hS_c0 := hS.cell 0; have hS_f0 := hS.frozen 0
         have hS_c1 := hS.cell 1; have hS_f1 := hS.frozen 1
         have hS_c2 := hS.cell 2; have hS_f2 := hS.frozen 2
         have hS_c3 := hS.cell 3; have hS_f3 := hS.frozen 3
         have hS_c4 := hS.cell 4; have hS_f4 := hS.frozen 4
         have hS_c5 := hS.cell 5; have hS_f5 := hS.frozen 5
         simp only [List.getElem?_toArray, List.getElem?_cons_zero, List.getElem?_cons_succ] at hS_c0 hS_c1 hS_c2 hS_c3 hS_c4 hS_c5
         replace hO := hO.below hb1 (by first | omega | exact hO.lt | (simp; done) | (simp; omega))
         (try clear hO_c0); (try clear hO_f0)
         (try clear hO_c1); (try clear hO_f1)
         (try clear hO_c2); (try clear hO_f2)
         (try clear hO_c3); (try clear hO_f3)
         (try clear hO_c4); (try clear hO_f4)
         (try clear hO_c5); (try clear hO_f5)
         (try clear hO_lt)
         have hO_lt := hO.lt; (try simp only [World.size_alloc] at hO_lt)
         have hO_c0 := hO.cell 0; have hO_f0 := hO.frozen 0
         have hO_c1 := hO.cell 1; have hO_f1 := hO.frozen 1
         have hO_c2 := hO.cell 2; have hO_f2 := hO.frozen 2
         have hO_c3 := hO.cell 3; have hO_f3 := hO.frozen 3
         have hO_c4 := hO.cell 4; have hO_f4 := hO.frozen 4
         have hO_c5 := hO.cell 5; have hO_f5 := hO.frozen 5
         simp only [List.getElem?_toArray, List.getElem?_cons_zero, List.getElem?_cons_succ] at hO_c0 hO_c1 hO_c2 hO_c3 hO_c4 hO_c5
         clear hb1))
    have hOO_lt : w.heap.size + 1 < w1.heap.size + 1 := by omega
    refine ⟨rfl, ?_⟩
    apply Exists.intro
    apply And.intro
    · simp [results, Tryz.results37, go_sem, hO_c0, hO_c1, hO_c2, hO_c3, hO_c4, hO_c5, hO_lt, hOO_lt]; exact rfl
    · exact HN.out _ (by repeat (first | with_reducible exact hBa | with_reducible exact hBa.size | with_reducible exact le1 w | with_reducible exact le2 w | with_reducible exact le3 w | with_reducible refine Below.setCell ?_ ?_ _ | with_reducible refine Below.alloc ?_ ?_ _ | with_reducible refine Below.drewN' ?_ _ | with_reducible refine Below.drew ?_ | with_reducible exact Nat.le_refl _ | with_reducible refine le_set ?_ | with_reducible refine le_all ?_))

  | got p =>
    have hp0 := (hpk p rfl).1
    have hp1 := (hpk p rfl).2
    obtain ⟨l, hll⟩ : ∃ l, dI p.wi = l := ⟨_, rfl⟩
    have hl7 := dI_len7 p.wi
    rw [hll] at hl7
    have HD := Lib.hid (fun w => sdec_any p.wi w (by omega) (by omega))
    rw [hll] at HD
    unfold DecRet at HD
    have HN := Lib.hid (HF.out (wGotB ++ l))
    obtain ⟨m1, hm1⟩ : ∃ m1, wGotB ++ l = m1 := ⟨_, rfl⟩
    obtain ⟨m2, hm2⟩ : ∃ m2, m1 ++ [10] = m2 := ⟨_, rfl⟩
    have ap1 := app_str wGotB l m1 hm1
    have ap2 := app_str m1 [10] m2 hm2
    have hl1 : m1.length ≤ 20 := by rw [← hm1]; simp [wGotB]; omega
    have hq1 : ¬ 9223372036854775807 < 4 + l.length := by omega
    have hq2 : ¬ 9223372036854775807 < m1.length + 1 := by omega
    rw [hm1, hm2] at HN
    simp only [wGotB] at ap1
    show Calls _ _ _ _ (StRet N0 (s', wGotB ++ dI p.wi) w)
    rw [hll, hm1]
    clear hm1 hm2 hll HF hpk htp
    unfold tkV tkN Pk.v at HT
    generalize StRet N0 (s', m1) w = R at *
    go_enter Tryz.func37, Tryz.ntmps37
    go_wp2_with (first
      | (go_at_call 49
         refine (HT.out _ hBa).mono ?_
         rintro e w1 ⟨rfl, hb1⟩
         replace hBa := hBa.trans (hb1.mono hBa.size)
         replace hS := hS.below hb1 (by first | omega | exact hS.lt | (simp; done) | (simp; omega))
         (try clear hS_c0); (try clear hS_f0)
         (try clear hS_c1); (try clear hS_f1)
         (try clear hS_c2); (try clear hS_f2)
         (try clear hS_c3); (try clear hS_f3)
         (try clear hS_c4); (try clear hS_f4)
         (try clear hS_c5); (try clear hS_f5)
         (try clear hS_lt)
         have hS_lt := hS.lt; (try simp only [World.size_alloc] at hS_lt)
         have hS_c0 := hS.cell 0; have hS_f0 := hS.frozen 0
         have hS_c1 := hS.cell 1; have hS_f1 := hS.frozen 1
         have hS_c2 := hS.cell 2; have hS_f2 := hS.frozen 2
         have hS_c3 := hS.cell 3; have hS_f3 := hS.frozen 3
         have hS_c4 := hS.cell 4; have hS_f4 := hS.frozen 4
         have hS_c5 := hS.cell 5; have hS_f5 := hS.frozen 5
         simp only [List.getElem?_toArray, List.getElem?_cons_zero, List.getElem?_cons_succ] at hS_c0 hS_c1 hS_c2 hS_c3 hS_c4 hS_c5
         replace hO := hO.below hb1 (by first | omega | exact hO.lt | (simp; done) | (simp; omega))
         (try clear hO_c0); (try clear hO_f0)
         (try clear hO_c1); (try clear hO_f1)
         (try clear hO_c2); (try clear hO_f2)
         (try clear hO_c3); (try clear hO_f3)
         (try clear hO_c4); (try clear hO_f4)
         (try clear hO_c5); (try clear hO_f5)
         (try clear hO_lt)
         have hO_lt := hO.lt; (try simp only [World.size_alloc] at hO_lt)
         have hO_c0 := hO.cell 0; have hO_f0 := hO.frozen 0
         have hO_c1 := hO.cell 1; have hO_f1 := hO.frozen 1
         have hO_c2 := hO.cell 2; have hO_f2 := hO.frozen 2
         have hO_c3 := hO.cell 3; have hO_f3 := hO.frozen 3
         have hO_c4 := hO.cell 4; have hO_f4 := hO.frozen 4
         have hO_c5 := hO.cell 5; have hO_f5 := hO.frozen 5
         simp only [List.getElem?_toArray, List.getElem?_cons_zero, List.getElem?_cons_succ] at hO_c0 hO_c1 hO_c2 hO_c3 hO_c4 hO_c5
         clear hb1))
    have hS2 : Bk (((((w1.setCell ⟨w.heap.size, 3, none⟩ (.int .i64 nx2)).setCell ⟨w.heap.size, 4, none⟩ (.int .i64 lo2)).setCell ⟨w.heap.size, 5, none⟩ (.bool wt2)).alloc (.cells #[.int .i64 nx2, .int .i64 lo2, .bool wt2] 36)).alloc (.cells #[.int .i64 p.wi, .int .i64 p.ti, .int .i64 p.la, .int .i64 p.si, .bool p.ky, .bool p.en] 81)) w.heap.size 51 #[.int .i64 4, .int .i64 co, .slice A n c, .int .i64 nx2, .int .i64 lo2, .bool wt2] := ((((hS.set_ 3 (.int .i64 nx2)).set_ 4 (.int .i64 lo2)).set_ 5 (.bool wt2)).alloc _).alloc _
    have hO2 : Bk (((((w1.setCell ⟨w.heap.size, 3, none⟩ (.int .i64 nx2)).setCell ⟨w.heap.size, 4, none⟩ (.int .i64 lo2)).setCell ⟨w.heap.size, 5, none⟩ (.bool wt2)).alloc (.cells #[.int .i64 nx2, .int .i64 lo2, .bool wt2] 36)).alloc (.cells #[.int .i64 p.wi, .int .i64 p.ti, .int .i64 p.la, .int .i64 p.si, .bool p.ky, .bool p.en] 81)) (w.heap.size + 1) 51 #[.int .i64 0, .int .i64 0, .slice none 0 0, .int .i64 0, .int .i64 0, .bool false] := ((((hO.far (p := ⟨w.heap.size, 3, none⟩) (by show ¬ _ = w.heap.size; omega) (.int .i64 nx2)).far (p := ⟨w.heap.size, 4, none⟩) (by show ¬ _ = w.heap.size; omega) (.int .i64 lo2)).far (p := ⟨w.heap.size, 5, none⟩) (by show ¬ _ = w.heap.size; omega) (.bool wt2)).alloc _).alloc _
    have hC2 : (((((w1.setCell ⟨w.heap.size, 3, none⟩ (.int .i64 nx2)).setCell ⟨w.heap.size, 4, none⟩ (.int .i64 lo2)).setCell ⟨w.heap.size, 5, none⟩ (.bool wt2)).alloc (.cells #[.int .i64 nx2, .int .i64 lo2, .bool wt2] 36)).alloc (.cells #[.int .i64 p.wi, .int .i64 p.ti, .int .i64 p.la, .int .i64 p.si, .bool p.ky, .bool p.en] 81)).cell? ⟨w1.heap.size + 1, 0, none⟩ = some (.int .i64 p.wi) := by
      have := bk_new1 (((w1.setCell ⟨w.heap.size, 3, none⟩ (.int .i64 nx2)).setCell ⟨w.heap.size, 4, none⟩ (.int .i64 lo2)).setCell ⟨w.heap.size, 5, none⟩ (.bool wt2)) (.cells #[.int .i64 nx2, .int .i64 lo2, .bool wt2] 36) 81 #[.int .i64 p.wi, .int .i64 p.ti, .int .i64 p.la, .int .i64 p.si, .bool p.ky, .bool p.en]
      simp only [World.size_setCell] at this
      exact this.cell 0
    have hB2 : Below w.heap.size w (((((w1.setCell ⟨w.heap.size, 3, none⟩ (.int .i64 nx2)).setCell ⟨w.heap.size, 4, none⟩ (.int .i64 lo2)).setCell ⟨w.heap.size, 5, none⟩ (.bool wt2)).alloc (.cells #[.int .i64 nx2, .int .i64 lo2, .bool wt2] 36)).alloc (.cells #[.int .i64 p.wi, .int .i64 p.ti, .int .i64 p.la, .int .i64 p.si, .bool p.ky, .bool p.en] 81)) := (by repeat (first | with_reducible exact hBa | with_reducible exact hBa.size | with_reducible exact Nat.le_refl _ | with_reducible refine Below.setCell ?_ ?_ _ | with_reducible refine Below.alloc ?_ ?_ _ | with_reducible refine le_set ?_ | with_reducible refine le_all ?_))
    generalize ((((w1.setCell ⟨w.heap.size, 3, none⟩ (.int .i64 nx2)).setCell ⟨w.heap.size, 4, none⟩ (.int .i64 lo2)).setCell ⟨w.heap.size, 5, none⟩ (.bool wt2)).alloc (.cells #[.int .i64 nx2, .int .i64 lo2, .bool wt2] 36)).alloc (.cells #[.int .i64 p.wi, .int .i64 p.ti, .int .i64 p.la, .int .i64 p.si, .bool p.ky, .bool p.en] 81) = W at *
    have hb0 := hB2.size
    replace hS2 := hS2.drew
    replace hO2 := hO2.drew
    replace hC2 : W.drew.cell? ⟨w1.heap.size + 1, 0, none⟩ = some (.int .i64 p.wi) := hC2
    have hC2l := World.block_lt_of_cell? _ _ hC2
    clear hS hO hBa
    (try clear hS2_c0); (try clear hS2_f0)
    (try clear hS2_c1); (try clear hS2_f1)
    (try clear hS2_c2); (try clear hS2_f2)
    (try clear hS2_c3); (try clear hS2_f3)
    (try clear hS2_c4); (try clear hS2_f4)
    (try clear hS2_c5); (try clear hS2_f5)
    (try clear hS2_lt)
    have hS2_lt := hS2.lt; (try simp only [World.size_alloc] at hS2_lt)
    have hS2_c0 := hS2.cell 0; have hS2_f0 := hS2.frozen 0
    have hS2_c1 := hS2.cell 1; have hS2_f1 := hS2.frozen 1
    have hS2_c2 := hS2.cell 2; have hS2_f2 := hS2.frozen 2
    have hS2_c3 := hS2.cell 3; have hS2_f3 := hS2.frozen 3
    have hS2_c4 := hS2.cell 4; have hS2_f4 := hS2.frozen 4
    have hS2_c5 := hS2.cell 5; have hS2_f5 := hS2.frozen 5
    simp only [List.getElem?_toArray, List.getElem?_cons_zero, List.getElem?_cons_succ] at hS2_c0 hS2_c1 hS2_c2 hS2_c3 hS2_c4 hS2_c5
    (try clear hO2_c0); (try clear hO2_f0)
    (try clear hO2_c1); (try clear hO2_f1)
    (try clear hO2_c2); (try clear hO2_f2)
    (try clear hO2_c3); (try clear hO2_f3)
    (try clear hO2_c4); (try clear hO2_f4)
    (try clear hO2_c5); (try clear hO2_f5)
    (try clear hO2_lt)
    have hO2_lt := hO2.lt; (try simp only [World.size_alloc] at hO2_lt)
    have hO2_c0 := hO2.cell 0; have hO2_f0 := hO2.frozen 0
    have hO2_c1 := hO2.cell 1; have hO2_f1 := hO2.frozen 1
    have hO2_c2 := hO2.cell 2; have hO2_f2 := hO2.frozen 2
    have hO2_c3 := hO2.cell 3; have hO2_f3 := hO2.frozen 3
    have hO2_c4 := hO2.cell 4; have hO2_f4 := hO2.frozen 4
    have hO2_c5 := hO2.cell 5; have hO2_f5 := hO2.frozen 5
    simp only [List.getElem?_toArray, List.getElem?_cons_zero, List.getElem?_cons_succ] at hO2_c0 hO2_c1 hO2_c2 hO2_c3 hO2_c4 hO2_c5
    go_region_held3 (fun w' => w'.cell? ⟨w.heap.size, 0, none⟩ = some (.int .i64 4) ∧ w'.cell? ⟨w.heap.size, 1, none⟩ = some (.int .i64 co) ∧ w'.cell? ⟨w.heap.size, 2, none⟩ = some (.slice A n c) ∧ w'.cell? ⟨w.heap.size, 3, none⟩ = some (.int .i64 nx2) ∧ w'.cell? ⟨w.heap.size, 4, none⟩ = some (.int .i64 lo2) ∧ w'.cell? ⟨w.heap.size, 5, none⟩ = some (.bool wt2) ∧ w'.cell? ⟨w1.heap.size + 1, 0, none⟩ = some (.int .i64 p.wi)) (first | with_reducible exact ⟨hS2_c0, hS2_c1, hS2_c2, hS2_c3, hS2_c4, hS2_c5, hC2⟩ | with_reducible exact ⟨hS3_c0, hS3_c1, hS3_c2, hS3_c3, hS3_c4, hS3_c5, hC3⟩ | exact ⟨by (repeat (rw [World.cell?_setCell_other _ _ _ _ (fun e => by injection e; omega)])); with_reducible assumption, by (repeat (rw [World.cell?_setCell_other _ _ _ _ (fun e => by injection e; omega)])); with_reducible assumption, by (repeat (rw [World.cell?_setCell_other _ _ _ _ (fun e => by injection e; omega)])); with_reducible assumption, by (repeat (rw [World.cell?_setCell_other _ _ _ _ (fun e => by injection e; omega)])); with_reducible assumption, by (repeat (rw [World.cell?_setCell_other _ _ _ _ (fun e => by injection e; omega)])); with_reducible assumption, by (repeat (rw [World.cell?_setCell_other _ _ _ _ (fun e => by injection e; omega)])); with_reducible assumption, by (repeat (rw [World.cell?_setCell_other _ _ _ _ (fun e => by injection e; omega)])); with_reducible assumption⟩)
      ((go_at_call 27
        refine (HD.out _).mono ?_
        rintro e w2 ⟨rfl, hb2⟩
        have hB3 := hB2.drew.trans (hb2.mono hb0)
        have hC3 := (hb2.cell (p := ⟨w1.heap.size + 1, 0, none⟩) hC2l).trans hC2
        have hS3 := hS2.below hb2 hS2.lt
        have hO3 := hO2.below hb2 hO2.lt
        (try clear hS3_c0); (try clear hS3_f0)
        (try clear hS3_c1); (try clear hS3_f1)
        (try clear hS3_c2); (try clear hS3_f2)
        (try clear hS3_c3); (try clear hS3_f3)
        (try clear hS3_c4); (try clear hS3_f4)
        (try clear hS3_c5); (try clear hS3_f5)
        (try clear hS3_lt)
        have hS3_lt := hS3.lt; (try simp only [World.size_alloc] at hS3_lt)
        have hS3_c0 := hS3.cell 0; have hS3_f0 := hS3.frozen 0
        have hS3_c1 := hS3.cell 1; have hS3_f1 := hS3.frozen 1
        have hS3_c2 := hS3.cell 2; have hS3_f2 := hS3.frozen 2
        have hS3_c3 := hS3.cell 3; have hS3_f3 := hS3.frozen 3
        have hS3_c4 := hS3.cell 4; have hS3_f4 := hS3.frozen 4
        have hS3_c5 := hS3.cell 5; have hS3_f5 := hS3.frozen 5
        simp only [List.getElem?_toArray, List.getElem?_cons_zero, List.getElem?_cons_succ] at hS3_c0 hS3_c1 hS3_c2 hS3_c3 hS3_c4 hS3_c5
        (try clear hO3_c0); (try clear hO3_f0)
        (try clear hO3_c1); (try clear hO3_f1)
        (try clear hO3_c2); (try clear hO3_f2)
        (try clear hO3_c3); (try clear hO3_f3)
        (try clear hO3_c4); (try clear hO3_f4)
        (try clear hO3_c5); (try clear hO3_f5)
        (try clear hO3_lt)
        have hO3_lt := hO3.lt; (try simp only [World.size_alloc] at hO3_lt)
        have hO3_c0 := hO3.cell 0; have hO3_f0 := hO3.frozen 0
        have hO3_c1 := hO3.cell 1; have hO3_f1 := hO3.frozen 1
        have hO3_c2 := hO3.cell 2; have hO3_f2 := hO3.frozen 2
        have hO3_c3 := hO3.cell 3; have hO3_f3 := hO3.frozen 3
        have hO3_c4 := hO3.cell 4; have hO3_f4 := hO3.frozen 4
        have hO3_c5 := hO3.cell 5; have hO3_f5 := hO3.frozen 5
        simp only [List.getElem?_toArray, List.getElem?_cons_zero, List.getElem?_cons_succ] at hO3_c0 hO3_c1 hO3_c2 hO3_c3 hO3_c4 hO3_c5
        clear hb2))
    all_goals
      go_wp2
      refine ⟨rfl, ?_⟩
      apply Exists.intro
      apply And.intro
      · simp [results, Tryz.results37, go_sem, hO3_c0, hO3_c1, hO3_c2, hO3_c3, hO3_c4, hO3_c5, hO3_lt]; exact rfl
      · exact HN.out _ (by repeat (first | with_reducible exact hB3 | with_reducible exact hB3.size | with_reducible exact le1 w | with_reducible exact le2 w | with_reducible exact le3 w | with_reducible refine Below.setCell ?_ ?_ _ | with_reducible refine Below.alloc ?_ ?_ _ | with_reducible refine Below.drewN' ?_ _ | with_reducible refine Below.drew ?_ | with_reducible exact Nat.le_refl _ | with_reducible refine le_set ?_ | with_reducible refine le_all ?_))
  | lost =>
    obtain ⟨l, hll⟩ : ∃ l, dI lo2 = l := ⟨_, rfl⟩
    have hl7 := dI_len7 lo2
    rw [hll] at hl7
    have HD := Lib.hid (fun w => sdec_any lo2 w (by omega) (by omega))
    rw [hll] at HD
    unfold DecRet at HD
    have HN := Lib.hid (HF.out (wLostB ++ l))
    obtain ⟨m1, hm1⟩ : ∃ m1, wLostB ++ l = m1 := ⟨_, rfl⟩
    obtain ⟨m2, hm2⟩ : ∃ m2, m1 ++ [10] = m2 := ⟨_, rfl⟩
    have ap1 := app_str wLostB l m1 hm1
    have ap2 := app_str m1 [10] m2 hm2
    have hl1 : m1.length ≤ 20 := by rw [← hm1]; simp [wLostB]; omega
    have hq1 : ¬ 9223372036854775807 < 5 + l.length := by omega
    have hq2 : ¬ 9223372036854775807 < m1.length + 1 := by omega
    rw [hm1, hm2] at HN
    simp only [wLostB] at ap1
    show Calls _ _ _ _ (StRet N0 (s', wLostB ++ dI s'.lo) w)
    rw [hlo2, hll, hm1]
    clear hm1 hm2 hll HF hpk htp
    unfold tkV tkN at HT
    generalize StRet N0 (s', m1) w = R at *
    go_enter Tryz.func37, Tryz.ntmps37
    go_wp2_with (first
      | (go_at_call 49
         refine (HT.out _ hBa).mono ?_
         rintro e w1 ⟨rfl, hb1⟩
         replace hBa := hBa.trans (hb1.mono hBa.size)
         replace hS := hS.below hb1 (by first | omega | exact hS.lt | (simp; done) | (simp; omega))
         (try clear hS_c0); (try clear hS_f0)
         (try clear hS_c1); (try clear hS_f1)
         (try clear hS_c2); (try clear hS_f2)
         (try clear hS_c3); (try clear hS_f3)
         (try clear hS_c4); (try clear hS_f4)
         (try clear hS_c5); (try clear hS_f5)
         (try clear hS_lt)
         have hS_lt := hS.lt; (try simp only [World.size_alloc] at hS_lt)
         have hS_c0 := hS.cell 0; have hS_f0 := hS.frozen 0
         have hS_c1 := hS.cell 1; have hS_f1 := hS.frozen 1
         have hS_c2 := hS.cell 2; have hS_f2 := hS.frozen 2
         have hS_c3 := hS.cell 3; have hS_f3 := hS.frozen 3
         have hS_c4 := hS.cell 4; have hS_f4 := hS.frozen 4
         have hS_c5 := hS.cell 5; have hS_f5 := hS.frozen 5
         simp only [List.getElem?_toArray, List.getElem?_cons_zero, List.getElem?_cons_succ] at hS_c0 hS_c1 hS_c2 hS_c3 hS_c4 hS_c5
         replace hO := hO.below hb1 (by first | omega | exact hO.lt | (simp; done) | (simp; omega))
         (try clear hO_c0); (try clear hO_f0)
         (try clear hO_c1); (try clear hO_f1)
         (try clear hO_c2); (try clear hO_f2)
         (try clear hO_c3); (try clear hO_f3)
         (try clear hO_c4); (try clear hO_f4)
         (try clear hO_c5); (try clear hO_f5)
         (try clear hO_lt)
         have hO_lt := hO.lt; (try simp only [World.size_alloc] at hO_lt)
         have hO_c0 := hO.cell 0; have hO_f0 := hO.frozen 0
         have hO_c1 := hO.cell 1; have hO_f1 := hO.frozen 1
         have hO_c2 := hO.cell 2; have hO_f2 := hO.frozen 2
         have hO_c3 := hO.cell 3; have hO_f3 := hO.frozen 3
         have hO_c4 := hO.cell 4; have hO_f4 := hO.frozen 4
         have hO_c5 := hO.cell 5; have hO_f5 := hO.frozen 5
         simp only [List.getElem?_toArray, List.getElem?_cons_zero, List.getElem?_cons_succ] at hO_c0 hO_c1 hO_c2 hO_c3 hO_c4 hO_c5
         clear hb1))
    have hS2 : Bk (((((w1.setCell ⟨w.heap.size, 3, none⟩ (.int .i64 nx2)).setCell ⟨w.heap.size, 4, none⟩ (.int .i64 lo2)).setCell ⟨w.heap.size, 5, none⟩ (.bool wt2)).alloc (.cells #[.int .i64 nx2, .int .i64 lo2, .bool wt2] 36)).alloc (.cells #[.int .i64 0, .int .i64 0, .int .i64 0, .int .i64 0, .bool false, .bool false] 81)) w.heap.size 51 #[.int .i64 4, .int .i64 co, .slice A n c, .int .i64 nx2, .int .i64 lo2, .bool wt2] := ((((hS.set_ 3 (.int .i64 nx2)).set_ 4 (.int .i64 lo2)).set_ 5 (.bool wt2)).alloc _).alloc _
    have hO2 : Bk (((((w1.setCell ⟨w.heap.size, 3, none⟩ (.int .i64 nx2)).setCell ⟨w.heap.size, 4, none⟩ (.int .i64 lo2)).setCell ⟨w.heap.size, 5, none⟩ (.bool wt2)).alloc (.cells #[.int .i64 nx2, .int .i64 lo2, .bool wt2] 36)).alloc (.cells #[.int .i64 0, .int .i64 0, .int .i64 0, .int .i64 0, .bool false, .bool false] 81)) (w.heap.size + 1) 51 #[.int .i64 0, .int .i64 0, .slice none 0 0, .int .i64 0, .int .i64 0, .bool false] := ((((hO.far (p := ⟨w.heap.size, 3, none⟩) (by show ¬ _ = w.heap.size; omega) (.int .i64 nx2)).far (p := ⟨w.heap.size, 4, none⟩) (by show ¬ _ = w.heap.size; omega) (.int .i64 lo2)).far (p := ⟨w.heap.size, 5, none⟩) (by show ¬ _ = w.heap.size; omega) (.bool wt2)).alloc _).alloc _
    have hC2 : (((((w1.setCell ⟨w.heap.size, 3, none⟩ (.int .i64 nx2)).setCell ⟨w.heap.size, 4, none⟩ (.int .i64 lo2)).setCell ⟨w.heap.size, 5, none⟩ (.bool wt2)).alloc (.cells #[.int .i64 nx2, .int .i64 lo2, .bool wt2] 36)).alloc (.cells #[.int .i64 0, .int .i64 0, .int .i64 0, .int .i64 0, .bool false, .bool false] 81)).cell? ⟨w1.heap.size, 1, none⟩ = some (.int .i64 lo2) := by
      have := (Bk.new (((w1.setCell ⟨w.heap.size, 3, none⟩ (.int .i64 nx2)).setCell ⟨w.heap.size, 4, none⟩ (.int .i64 lo2)).setCell ⟨w.heap.size, 5, none⟩ (.bool wt2)) 36 #[.int .i64 nx2, .int .i64 lo2, .bool wt2]).alloc (.cells #[.int .i64 0, .int .i64 0, .int .i64 0, .int .i64 0, .bool false, .bool false] 81)
      simp only [World.size_setCell] at this
      exact this.cell 1
    have hB2 : Below w.heap.size w (((((w1.setCell ⟨w.heap.size, 3, none⟩ (.int .i64 nx2)).setCell ⟨w.heap.size, 4, none⟩ (.int .i64 lo2)).setCell ⟨w.heap.size, 5, none⟩ (.bool wt2)).alloc (.cells #[.int .i64 nx2, .int .i64 lo2, .bool wt2] 36)).alloc (.cells #[.int .i64 0, .int .i64 0, .int .i64 0, .int .i64 0, .bool false, .bool false] 81)) := (by repeat (first | with_reducible exact hBa | with_reducible exact hBa.size | with_reducible exact Nat.le_refl _ | with_reducible refine Below.setCell ?_ ?_ _ | with_reducible refine Below.alloc ?_ ?_ _ | with_reducible refine le_set ?_ | with_reducible refine le_all ?_))
    generalize ((((w1.setCell ⟨w.heap.size, 3, none⟩ (.int .i64 nx2)).setCell ⟨w.heap.size, 4, none⟩ (.int .i64 lo2)).setCell ⟨w.heap.size, 5, none⟩ (.bool wt2)).alloc (.cells #[.int .i64 nx2, .int .i64 lo2, .bool wt2] 36)).alloc (.cells #[.int .i64 0, .int .i64 0, .int .i64 0, .int .i64 0, .bool false, .bool false] 81) = W at *
    have hb0 := hB2.size
    replace hS2 := hS2.drew
    replace hO2 := hO2.drew
    replace hC2 : W.drew.cell? ⟨w1.heap.size, 1, none⟩ = some (.int .i64 lo2) := hC2
    have hC2l := World.block_lt_of_cell? _ _ hC2
    clear hS hO hBa
    (try clear hS2_c0); (try clear hS2_f0)
    (try clear hS2_c1); (try clear hS2_f1)
    (try clear hS2_c2); (try clear hS2_f2)
    (try clear hS2_c3); (try clear hS2_f3)
    (try clear hS2_c4); (try clear hS2_f4)
    (try clear hS2_c5); (try clear hS2_f5)
    (try clear hS2_lt)
    have hS2_lt := hS2.lt; (try simp only [World.size_alloc] at hS2_lt)
    have hS2_c0 := hS2.cell 0; have hS2_f0 := hS2.frozen 0
    have hS2_c1 := hS2.cell 1; have hS2_f1 := hS2.frozen 1
    have hS2_c2 := hS2.cell 2; have hS2_f2 := hS2.frozen 2
    have hS2_c3 := hS2.cell 3; have hS2_f3 := hS2.frozen 3
    have hS2_c4 := hS2.cell 4; have hS2_f4 := hS2.frozen 4
    have hS2_c5 := hS2.cell 5; have hS2_f5 := hS2.frozen 5
    simp only [List.getElem?_toArray, List.getElem?_cons_zero, List.getElem?_cons_succ] at hS2_c0 hS2_c1 hS2_c2 hS2_c3 hS2_c4 hS2_c5
    (try clear hO2_c0); (try clear hO2_f0)
    (try clear hO2_c1); (try clear hO2_f1)
    (try clear hO2_c2); (try clear hO2_f2)
    (try clear hO2_c3); (try clear hO2_f3)
    (try clear hO2_c4); (try clear hO2_f4)
    (try clear hO2_c5); (try clear hO2_f5)
    (try clear hO2_lt)
    have hO2_lt := hO2.lt; (try simp only [World.size_alloc] at hO2_lt)
    have hO2_c0 := hO2.cell 0; have hO2_f0 := hO2.frozen 0
    have hO2_c1 := hO2.cell 1; have hO2_f1 := hO2.frozen 1
    have hO2_c2 := hO2.cell 2; have hO2_f2 := hO2.frozen 2
    have hO2_c3 := hO2.cell 3; have hO2_f3 := hO2.frozen 3
    have hO2_c4 := hO2.cell 4; have hO2_f4 := hO2.frozen 4
    have hO2_c5 := hO2.cell 5; have hO2_f5 := hO2.frozen 5
    simp only [List.getElem?_toArray, List.getElem?_cons_zero, List.getElem?_cons_succ] at hO2_c0 hO2_c1 hO2_c2 hO2_c3 hO2_c4 hO2_c5
    go_region_held3 (fun w' => w'.cell? ⟨w.heap.size, 0, none⟩ = some (.int .i64 4) ∧ w'.cell? ⟨w.heap.size, 1, none⟩ = some (.int .i64 co) ∧ w'.cell? ⟨w.heap.size, 2, none⟩ = some (.slice A n c) ∧ w'.cell? ⟨w.heap.size, 3, none⟩ = some (.int .i64 nx2) ∧ w'.cell? ⟨w.heap.size, 4, none⟩ = some (.int .i64 lo2) ∧ w'.cell? ⟨w.heap.size, 5, none⟩ = some (.bool wt2) ∧ w'.cell? ⟨w1.heap.size, 1, none⟩ = some (.int .i64 lo2)) (first | with_reducible exact ⟨hS2_c0, hS2_c1, hS2_c2, hS2_c3, hS2_c4, hS2_c5, hC2⟩ | with_reducible exact ⟨hS3_c0, hS3_c1, hS3_c2, hS3_c3, hS3_c4, hS3_c5, hC3⟩ | exact ⟨by (repeat (rw [World.cell?_setCell_other _ _ _ _ (fun e => by injection e; omega)])); with_reducible assumption, by (repeat (rw [World.cell?_setCell_other _ _ _ _ (fun e => by injection e; omega)])); with_reducible assumption, by (repeat (rw [World.cell?_setCell_other _ _ _ _ (fun e => by injection e; omega)])); with_reducible assumption, by (repeat (rw [World.cell?_setCell_other _ _ _ _ (fun e => by injection e; omega)])); with_reducible assumption, by (repeat (rw [World.cell?_setCell_other _ _ _ _ (fun e => by injection e; omega)])); with_reducible assumption, by (repeat (rw [World.cell?_setCell_other _ _ _ _ (fun e => by injection e; omega)])); with_reducible assumption, by (repeat (rw [World.cell?_setCell_other _ _ _ _ (fun e => by injection e; omega)])); with_reducible assumption⟩)
      ((go_at_call 27
        refine (HD.out _).mono ?_
        rintro e w2 ⟨rfl, hb2⟩
        have hB3 := hB2.drew.trans (hb2.mono hb0)
        have hC3 := (hb2.cell (p := ⟨w1.heap.size, 1, none⟩) hC2l).trans hC2
        have hS3 := hS2.below hb2 hS2.lt
        have hO3 := hO2.below hb2 hO2.lt
        (try clear hS3_c0); (try clear hS3_f0)
        (try clear hS3_c1); (try clear hS3_f1)
        (try clear hS3_c2); (try clear hS3_f2)
        (try clear hS3_c3); (try clear hS3_f3)
        (try clear hS3_c4); (try clear hS3_f4)
        (try clear hS3_c5); (try clear hS3_f5)
        (try clear hS3_lt)
        have hS3_lt := hS3.lt; (try simp only [World.size_alloc] at hS3_lt)
        have hS3_c0 := hS3.cell 0; have hS3_f0 := hS3.frozen 0
        have hS3_c1 := hS3.cell 1; have hS3_f1 := hS3.frozen 1
        have hS3_c2 := hS3.cell 2; have hS3_f2 := hS3.frozen 2
        have hS3_c3 := hS3.cell 3; have hS3_f3 := hS3.frozen 3
        have hS3_c4 := hS3.cell 4; have hS3_f4 := hS3.frozen 4
        have hS3_c5 := hS3.cell 5; have hS3_f5 := hS3.frozen 5
        simp only [List.getElem?_toArray, List.getElem?_cons_zero, List.getElem?_cons_succ] at hS3_c0 hS3_c1 hS3_c2 hS3_c3 hS3_c4 hS3_c5
        (try clear hO3_c0); (try clear hO3_f0)
        (try clear hO3_c1); (try clear hO3_f1)
        (try clear hO3_c2); (try clear hO3_f2)
        (try clear hO3_c3); (try clear hO3_f3)
        (try clear hO3_c4); (try clear hO3_f4)
        (try clear hO3_c5); (try clear hO3_f5)
        (try clear hO3_lt)
        have hO3_lt := hO3.lt; (try simp only [World.size_alloc] at hO3_lt)
        have hO3_c0 := hO3.cell 0; have hO3_f0 := hO3.frozen 0
        have hO3_c1 := hO3.cell 1; have hO3_f1 := hO3.frozen 1
        have hO3_c2 := hO3.cell 2; have hO3_f2 := hO3.frozen 2
        have hO3_c3 := hO3.cell 3; have hO3_f3 := hO3.frozen 3
        have hO3_c4 := hO3.cell 4; have hO3_f4 := hO3.frozen 4
        have hO3_c5 := hO3.cell 5; have hO3_f5 := hO3.frozen 5
        simp only [List.getElem?_toArray, List.getElem?_cons_zero, List.getElem?_cons_succ] at hO3_c0 hO3_c1 hO3_c2 hO3_c3 hO3_c4 hO3_c5
        clear hb2))
    all_goals
      go_wp2
      refine ⟨rfl, ?_⟩
      apply Exists.intro
      apply And.intro
      · simp [results, Tryz.results37, go_sem, hO3_c0, hO3_c1, hO3_c2, hO3_c3, hO3_c4, hO3_c5, hO3_lt]; exact rfl
      · exact HN.out _ (by repeat (first | with_reducible exact hB3 | with_reducible exact hB3.size | with_reducible exact le1 w | with_reducible exact le2 w | with_reducible exact le3 w | with_reducible refine Below.setCell ?_ ?_ _ | with_reducible refine Below.alloc ?_ ?_ _ | with_reducible refine Below.drewN' ?_ _ | with_reducible refine Below.drew ?_ | with_reducible exact Nat.le_refl _ | with_reducible refine le_set ?_ | with_reducible refine le_all ?_))

end Go.Proofs.YthbkmnladaneaaaGreatDoor
